/-
  No cell of these rows narrows 'for every input' (looked for: loops, veiled, ifaces, maps, wideKeys, modest, calm, conditions, laid).
  DERIVED. THE GIVEN ROWS OF THIS SEAT. 14 by the template 'for every input the law returns true; each argument reads behind the call as it read before'; 0 by the template 'total and deterministic' (their statements: YtfpblgbokmpmjaaTotals.lean).
  GIVEN WITH THE SEED: the statements are not yours to turn. If you find one false, say at which input.
  Laid BY PROGRAM, IN A SANDBOX (cutbox-rows.mjs): the forced cells as the released guide's own fill.sh prints them over the translation a6146322e19031f7… (all of the seat's roots in one cut). By AI agents, Wed Nov 11 2026. No macro, syntax, notation, axiom, sorry.
-/
import Derived.Test.YtfpblgbokmpmjaaChecked
import GoSem.Claim
import GoSem.ClaimJoined
import GoSem.ClaimMapViews
import Derived.JoinedTies
import Derived.KernelRfl
namespace Go.Proofs.Ytfpblgbokmpmjaa
/- THE CELL 'sum', in the pinned program and in every row, IS THE sha256 OF THE DUMP (.gsa) THAT YtfpblgbokmpmjaaProg.lean LOADS. Nothing in Lean hashes anything: it is a label: what it is worth is what the hold of that sum in a sandbox is worth. -/
noncomputable def Try.pinned : Pinned := { name := "ytfpblgbokmpmjaa", sum := "a6146322e19031f7faccae49f1e96281ca5bb761db3a2edabe23e73bf7188369", checked := Try.checked }
namespace Rows
def none {H : Type} : Left H := { results := [], args := [] }

/-- 'laws.FnExactCountGates': WHATEVER THE INPUT: true; the input reads as it did. -/
def fnExactCountGatesSpec : ChangeSpec := { name := "fnExactCountGates", fn := fun _ => fun
  | [d1, d2] => { results := [.lit (.bool true)], args := [d1, d2] }
  | _ => none }
def fnExactCountGatesRow : OpenClaim := { program := "ytfpblgbokmpmjaa", sum := "a6146322e19031f7faccae49f1e96281ca5bb761db3a2edabe23e73bf7188369", func := "loop.example/g00979/laws.FnExactCountGates", spec := "fnExactCountGates", plainKeys := false, apart := false }
def FnExactCountGatesSaid : Prop := fnExactCountGatesRow.holds Try.pinned (OpenSpec.ofChange fnExactCountGatesSpec)

/-- ITS FALSE NEIGHBOUR: 'it returns false'. Refute it at one input. -/
def fnExactCountGatesWrong : ChangeSpec := { name := "fnExactCountGates", fn := fun _ => fun
  | [d1, d2] => { results := [.lit (.bool false)], args := [d1, d2] }
  | _ => none }
def FnExactCountGatesWrongFalsely : Prop := fnExactCountGatesRow.holds Try.pinned (OpenSpec.ofChange fnExactCountGatesWrong)

/-- 'laws.FnExactCircuitOk': WHATEVER THE INPUT: true; the input reads as it did. -/
def fnExactCircuitOkSpec : ChangeSpec := { name := "fnExactCircuitOk", fn := fun _ => fun
  | [d] => { results := [.lit (.bool true)], args := [d] }
  | _ => none }
def fnExactCircuitOkRow : OpenClaim := { program := "ytfpblgbokmpmjaa", sum := "a6146322e19031f7faccae49f1e96281ca5bb761db3a2edabe23e73bf7188369", func := "loop.example/g00979/laws.FnExactCircuitOk", spec := "fnExactCircuitOk", plainKeys := false, apart := false }
def FnExactCircuitOkSaid : Prop := fnExactCircuitOkRow.holds Try.pinned (OpenSpec.ofChange fnExactCircuitOkSpec)

/-- ITS FALSE NEIGHBOUR: 'it returns false'. Refute it at one input. -/
def fnExactCircuitOkWrong : ChangeSpec := { name := "fnExactCircuitOk", fn := fun _ => fun
  | [d] => { results := [.lit (.bool false)], args := [d] }
  | _ => none }
def FnExactCircuitOkWrongFalsely : Prop := fnExactCircuitOkRow.holds Try.pinned (OpenSpec.ofChange fnExactCircuitOkWrong)

/-- 'laws.FnExactAndDepth': WHATEVER THE INPUT: true; the input reads as it did. -/
def fnExactAndDepthSpec : ChangeSpec := { name := "fnExactAndDepth", fn := fun _ => fun
  | [d] => { results := [.lit (.bool true)], args := [d] }
  | _ => none }
def fnExactAndDepthRow : OpenClaim := { program := "ytfpblgbokmpmjaa", sum := "a6146322e19031f7faccae49f1e96281ca5bb761db3a2edabe23e73bf7188369", func := "loop.example/g00979/laws.FnExactAndDepth", spec := "fnExactAndDepth", plainKeys := false, apart := false }
def FnExactAndDepthSaid : Prop := fnExactAndDepthRow.holds Try.pinned (OpenSpec.ofChange fnExactAndDepthSpec)

/-- ITS FALSE NEIGHBOUR: 'it returns false'. Refute it at one input. -/
def fnExactAndDepthWrong : ChangeSpec := { name := "fnExactAndDepth", fn := fun _ => fun
  | [d] => { results := [.lit (.bool false)], args := [d] }
  | _ => none }
def FnExactAndDepthWrongFalsely : Prop := fnExactAndDepthRow.holds Try.pinned (OpenSpec.ofChange fnExactAndDepthWrong)

/-- 'laws.FnExactEvalWires': WHATEVER THE INPUT: true; the input reads as it did. -/
def fnExactEvalWiresSpec : ChangeSpec := { name := "fnExactEvalWires", fn := fun _ => fun
  | [d1, d2] => { results := [.lit (.bool true)], args := [d1, d2] }
  | _ => none }
def fnExactEvalWiresRow : OpenClaim := { program := "ytfpblgbokmpmjaa", sum := "a6146322e19031f7faccae49f1e96281ca5bb761db3a2edabe23e73bf7188369", func := "loop.example/g00979/laws.FnExactEvalWires", spec := "fnExactEvalWires", plainKeys := false, apart := false }
def FnExactEvalWiresSaid : Prop := fnExactEvalWiresRow.holds Try.pinned (OpenSpec.ofChange fnExactEvalWiresSpec)

/-- ITS FALSE NEIGHBOUR: 'it returns false'. Refute it at one input. -/
def fnExactEvalWiresWrong : ChangeSpec := { name := "fnExactEvalWires", fn := fun _ => fun
  | [d1, d2] => { results := [.lit (.bool false)], args := [d1, d2] }
  | _ => none }
def FnExactEvalWiresWrongFalsely : Prop := fnExactEvalWiresRow.holds Try.pinned (OpenSpec.ofChange fnExactEvalWiresWrong)

/-- 'laws.FnExactEvalCircuit': WHATEVER THE INPUT: true; the input reads as it did. -/
def fnExactEvalCircuitSpec : ChangeSpec := { name := "fnExactEvalCircuit", fn := fun _ => fun
  | [d1, d2] => { results := [.lit (.bool true)], args := [d1, d2] }
  | _ => none }
def fnExactEvalCircuitRow : OpenClaim := { program := "ytfpblgbokmpmjaa", sum := "a6146322e19031f7faccae49f1e96281ca5bb761db3a2edabe23e73bf7188369", func := "loop.example/g00979/laws.FnExactEvalCircuit", spec := "fnExactEvalCircuit", plainKeys := false, apart := false }
def FnExactEvalCircuitSaid : Prop := fnExactEvalCircuitRow.holds Try.pinned (OpenSpec.ofChange fnExactEvalCircuitSpec)

/-- ITS FALSE NEIGHBOUR: 'it returns false'. Refute it at one input. -/
def fnExactEvalCircuitWrong : ChangeSpec := { name := "fnExactEvalCircuit", fn := fun _ => fun
  | [d1, d2] => { results := [.lit (.bool false)], args := [d1, d2] }
  | _ => none }
def FnExactEvalCircuitWrongFalsely : Prop := fnExactEvalCircuitRow.holds Try.pinned (OpenSpec.ofChange fnExactEvalCircuitWrong)

/-- 'laws.FnExactLiveGates': WHATEVER THE INPUT: true; the input reads as it did. -/
def fnExactLiveGatesSpec : ChangeSpec := { name := "fnExactLiveGates", fn := fun _ => fun
  | [d] => { results := [.lit (.bool true)], args := [d] }
  | _ => none }
def fnExactLiveGatesRow : OpenClaim := { program := "ytfpblgbokmpmjaa", sum := "a6146322e19031f7faccae49f1e96281ca5bb761db3a2edabe23e73bf7188369", func := "loop.example/g00979/laws.FnExactLiveGates", spec := "fnExactLiveGates", plainKeys := false, apart := false }
def FnExactLiveGatesSaid : Prop := fnExactLiveGatesRow.holds Try.pinned (OpenSpec.ofChange fnExactLiveGatesSpec)

/-- ITS FALSE NEIGHBOUR: 'it returns false'. Refute it at one input. -/
def fnExactLiveGatesWrong : ChangeSpec := { name := "fnExactLiveGates", fn := fun _ => fun
  | [d] => { results := [.lit (.bool false)], args := [d] }
  | _ => none }
def FnExactLiveGatesWrongFalsely : Prop := fnExactLiveGatesRow.holds Try.pinned (OpenSpec.ofChange fnExactLiveGatesWrong)

/-- 'laws.FnExactPrune': WHATEVER THE INPUT: true; the input reads as it did. -/
def fnExactPruneSpec : ChangeSpec := { name := "fnExactPrune", fn := fun _ => fun
  | [d] => { results := [.lit (.bool true)], args := [d] }
  | _ => none }
def fnExactPruneRow : OpenClaim := { program := "ytfpblgbokmpmjaa", sum := "a6146322e19031f7faccae49f1e96281ca5bb761db3a2edabe23e73bf7188369", func := "loop.example/g00979/laws.FnExactPrune", spec := "fnExactPrune", plainKeys := false, apart := false }
def FnExactPruneSaid : Prop := fnExactPruneRow.holds Try.pinned (OpenSpec.ofChange fnExactPruneSpec)

/-- ITS FALSE NEIGHBOUR: 'it returns false'. Refute it at one input. -/
def fnExactPruneWrong : ChangeSpec := { name := "fnExactPrune", fn := fun _ => fun
  | [d] => { results := [.lit (.bool false)], args := [d] }
  | _ => none }
def FnExactPruneWrongFalsely : Prop := fnExactPruneRow.holds Try.pinned (OpenSpec.ofChange fnExactPruneWrong)

/-- 'laws.FnExactSimplify': WHATEVER THE INPUT: true; the input reads as it did. -/
def fnExactSimplifySpec : ChangeSpec := { name := "fnExactSimplify", fn := fun _ => fun
  | [d] => { results := [.lit (.bool true)], args := [d] }
  | _ => none }
def fnExactSimplifyRow : OpenClaim := { program := "ytfpblgbokmpmjaa", sum := "a6146322e19031f7faccae49f1e96281ca5bb761db3a2edabe23e73bf7188369", func := "loop.example/g00979/laws.FnExactSimplify", spec := "fnExactSimplify", plainKeys := false, apart := false }
def FnExactSimplifySaid : Prop := fnExactSimplifyRow.holds Try.pinned (OpenSpec.ofChange fnExactSimplifySpec)

/-- ITS FALSE NEIGHBOUR: 'it returns false'. Refute it at one input. -/
def fnExactSimplifyWrong : ChangeSpec := { name := "fnExactSimplify", fn := fun _ => fun
  | [d] => { results := [.lit (.bool false)], args := [d] }
  | _ => none }
def FnExactSimplifyWrongFalsely : Prop := fnExactSimplifyRow.holds Try.pinned (OpenSpec.ofChange fnExactSimplifyWrong)

/-- 'laws.FnExactOptimize': WHATEVER THE INPUT: true; the input reads as it did. -/
def fnExactOptimizeSpec : ChangeSpec := { name := "fnExactOptimize", fn := fun _ => fun
  | [d] => { results := [.lit (.bool true)], args := [d] }
  | _ => none }
def fnExactOptimizeRow : OpenClaim := { program := "ytfpblgbokmpmjaa", sum := "a6146322e19031f7faccae49f1e96281ca5bb761db3a2edabe23e73bf7188369", func := "loop.example/g00979/laws.FnExactOptimize", spec := "fnExactOptimize", plainKeys := false, apart := false }
def FnExactOptimizeSaid : Prop := fnExactOptimizeRow.holds Try.pinned (OpenSpec.ofChange fnExactOptimizeSpec)

/-- ITS FALSE NEIGHBOUR: 'it returns false'. Refute it at one input. -/
def fnExactOptimizeWrong : ChangeSpec := { name := "fnExactOptimize", fn := fun _ => fun
  | [d] => { results := [.lit (.bool false)], args := [d] }
  | _ => none }
def FnExactOptimizeWrongFalsely : Prop := fnExactOptimizeRow.holds Try.pinned (OpenSpec.ofChange fnExactOptimizeWrong)

/-- 'laws.FnFreeGates': WHATEVER THE INPUT: true; the input reads as it did. -/
def fnFreeGatesSpec : ChangeSpec := { name := "fnFreeGates", fn := fun _ => fun
  | [d] => { results := [.lit (.bool true)], args := [d] }
  | _ => none }
def fnFreeGatesRow : OpenClaim := { program := "ytfpblgbokmpmjaa", sum := "a6146322e19031f7faccae49f1e96281ca5bb761db3a2edabe23e73bf7188369", func := "loop.example/g00979/laws.FnFreeGates", spec := "fnFreeGates", plainKeys := false, apart := false }
def FnFreeGatesSaid : Prop := fnFreeGatesRow.holds Try.pinned (OpenSpec.ofChange fnFreeGatesSpec)

/-- ITS FALSE NEIGHBOUR: 'it returns false'. Refute it at one input. -/
def fnFreeGatesWrong : ChangeSpec := { name := "fnFreeGates", fn := fun _ => fun
  | [d] => { results := [.lit (.bool false)], args := [d] }
  | _ => none }
def FnFreeGatesWrongFalsely : Prop := fnFreeGatesRow.holds Try.pinned (OpenSpec.ofChange fnFreeGatesWrong)

/-- 'laws.FnCircuits': WHATEVER THE INPUT: true; the input reads as it did. -/
def fnCircuitsSpec : ChangeSpec := { name := "fnCircuits", fn := fun _ => fun
  | [d] => { results := [.lit (.bool true)], args := [d] }
  | _ => none }
def fnCircuitsRow : OpenClaim := { program := "ytfpblgbokmpmjaa", sum := "a6146322e19031f7faccae49f1e96281ca5bb761db3a2edabe23e73bf7188369", func := "loop.example/g00979/laws.FnCircuits", spec := "fnCircuits", plainKeys := false, apart := false }
def FnCircuitsSaid : Prop := fnCircuitsRow.holds Try.pinned (OpenSpec.ofChange fnCircuitsSpec)

/-- ITS FALSE NEIGHBOUR: 'it returns false'. Refute it at one input. -/
def fnCircuitsWrong : ChangeSpec := { name := "fnCircuits", fn := fun _ => fun
  | [d] => { results := [.lit (.bool false)], args := [d] }
  | _ => none }
def FnCircuitsWrongFalsely : Prop := fnCircuitsRow.holds Try.pinned (OpenSpec.ofChange fnCircuitsWrong)

/-- 'laws.FnPruned': WHATEVER THE INPUT: true; the input reads as it did. -/
def fnPrunedSpec : ChangeSpec := { name := "fnPruned", fn := fun _ => fun
  | [d] => { results := [.lit (.bool true)], args := [d] }
  | _ => none }
def fnPrunedRow : OpenClaim := { program := "ytfpblgbokmpmjaa", sum := "a6146322e19031f7faccae49f1e96281ca5bb761db3a2edabe23e73bf7188369", func := "loop.example/g00979/laws.FnPruned", spec := "fnPruned", plainKeys := false, apart := false }
def FnPrunedSaid : Prop := fnPrunedRow.holds Try.pinned (OpenSpec.ofChange fnPrunedSpec)

/-- ITS FALSE NEIGHBOUR: 'it returns false'. Refute it at one input. -/
def fnPrunedWrong : ChangeSpec := { name := "fnPruned", fn := fun _ => fun
  | [d] => { results := [.lit (.bool false)], args := [d] }
  | _ => none }
def FnPrunedWrongFalsely : Prop := fnPrunedRow.holds Try.pinned (OpenSpec.ofChange fnPrunedWrong)

/-- 'laws.FnSimplified': WHATEVER THE INPUT: true; the input reads as it did. -/
def fnSimplifiedSpec : ChangeSpec := { name := "fnSimplified", fn := fun _ => fun
  | [d] => { results := [.lit (.bool true)], args := [d] }
  | _ => none }
def fnSimplifiedRow : OpenClaim := { program := "ytfpblgbokmpmjaa", sum := "a6146322e19031f7faccae49f1e96281ca5bb761db3a2edabe23e73bf7188369", func := "loop.example/g00979/laws.FnSimplified", spec := "fnSimplified", plainKeys := false, apart := false }
def FnSimplifiedSaid : Prop := fnSimplifiedRow.holds Try.pinned (OpenSpec.ofChange fnSimplifiedSpec)

/-- ITS FALSE NEIGHBOUR: 'it returns false'. Refute it at one input. -/
def fnSimplifiedWrong : ChangeSpec := { name := "fnSimplified", fn := fun _ => fun
  | [d] => { results := [.lit (.bool false)], args := [d] }
  | _ => none }
def FnSimplifiedWrongFalsely : Prop := fnSimplifiedRow.holds Try.pinned (OpenSpec.ofChange fnSimplifiedWrong)

/-- 'laws.FnExactRunCircuit': WHATEVER THE INPUT: true; the input reads as it did. -/
def fnExactRunCircuitSpec : ChangeSpec := { name := "fnExactRunCircuit", fn := fun _ => fun
  | [d1, d2] => { results := [.lit (.bool true)], args := [d1, d2] }
  | _ => none }
def fnExactRunCircuitRow : OpenClaim := { program := "ytfpblgbokmpmjaa", sum := "a6146322e19031f7faccae49f1e96281ca5bb761db3a2edabe23e73bf7188369", func := "loop.example/g00979/laws.FnExactRunCircuit", spec := "fnExactRunCircuit", plainKeys := false, apart := false }
def FnExactRunCircuitSaid : Prop := fnExactRunCircuitRow.holds Try.pinned (OpenSpec.ofChange fnExactRunCircuitSpec)

/-- ITS FALSE NEIGHBOUR: 'it returns false'. Refute it at one input. -/
def fnExactRunCircuitWrong : ChangeSpec := { name := "fnExactRunCircuit", fn := fun _ => fun
  | [d1, d2] => { results := [.lit (.bool false)], args := [d1, d2] }
  | _ => none }
def FnExactRunCircuitWrongFalsely : Prop := fnExactRunCircuitRow.holds Try.pinned (OpenSpec.ofChange fnExactRunCircuitWrong)

/- THE SECOND FORM. 'bulk': how many values and letters a reading holds, each counted each time it is reached (what is shared counts as often as it is met; a slice's spare places count too). A statement '..UptoSaid' is the law's where the arguments, and the package variables that the reading takes, are together of bulk at most 1048576: NARROWER than '..Said'. Prove '..Said' where nothing that the law and all that it calls make is longer than what came in: it says more and counts as full. Else prove '..UptoSaid'. A law counts once. -/
mutual
def uptoBulk {H : Type} : DataW H → Nat
  | .lit (.string bytes) => bytes.length + 1
  | .lit _ => 1
  | .nil => 1
  | .ptr d => uptoBulk d + 1
  | .slice elems spare => uptoBulkAll elems + uptoBulkAll spare + 1
  | .agg parts => uptoBulkAll parts + 1
  | .iface _ d => uptoBulk d + 1
  | .map entries => uptoBulkEntries entries + 1
  | .held _ => 1
def uptoBulkAll {H : Type} : List (DataW H) → Nat
  | [] => 0
  | d :: r => uptoBulk d + uptoBulkAll r
def uptoBulkEntries {H : Type} : List (Lit × DataW H) → Nat
  | [] => 0
  | x :: r => uptoBulkEntry x + uptoBulkEntries r
def uptoBulkEntry {H : Type} : Lit × DataW H → Nat
  | (.string bytes, d) => bytes.length + uptoBulk d + 1
  | (_, d) => uptoBulk d + 1
 end
def uptoSmall : (H : Type) → List (DataW H) → Bool := fun _ ds => decide (uptoBulkAll ds ≤ 1048576)
def OpenSpec.upto (s : _root_.Go.ChangeSpec) : _root_.Go.OpenSpec := { _root_.Go.OpenSpec.ofChange s with cond := some uptoSmall }

/-- 'laws.FnExactCountGates', WHERE WHAT IT READS IS OF BULK AT MOST 1048576: true; the input reads as it did. -/
def fnExactCountGatesUptoRow : OpenClaim := { program := "ytfpblgbokmpmjaa", sum := "a6146322e19031f7faccae49f1e96281ca5bb761db3a2edabe23e73bf7188369", func := "loop.example/g00979/laws.FnExactCountGates", spec := "fnExactCountGates", plainKeys := false, apart := false, narrowed := true }
def FnExactCountGatesUptoSaid : Prop := fnExactCountGatesUptoRow.holds Try.pinned (OpenSpec.upto fnExactCountGatesSpec)

/-- 'laws.FnExactCircuitOk', WHERE WHAT IT READS IS OF BULK AT MOST 1048576: true; the input reads as it did. -/
def fnExactCircuitOkUptoRow : OpenClaim := { program := "ytfpblgbokmpmjaa", sum := "a6146322e19031f7faccae49f1e96281ca5bb761db3a2edabe23e73bf7188369", func := "loop.example/g00979/laws.FnExactCircuitOk", spec := "fnExactCircuitOk", plainKeys := false, apart := false, narrowed := true }
def FnExactCircuitOkUptoSaid : Prop := fnExactCircuitOkUptoRow.holds Try.pinned (OpenSpec.upto fnExactCircuitOkSpec)

/-- 'laws.FnExactAndDepth', WHERE WHAT IT READS IS OF BULK AT MOST 1048576: true; the input reads as it did. -/
def fnExactAndDepthUptoRow : OpenClaim := { program := "ytfpblgbokmpmjaa", sum := "a6146322e19031f7faccae49f1e96281ca5bb761db3a2edabe23e73bf7188369", func := "loop.example/g00979/laws.FnExactAndDepth", spec := "fnExactAndDepth", plainKeys := false, apart := false, narrowed := true }
def FnExactAndDepthUptoSaid : Prop := fnExactAndDepthUptoRow.holds Try.pinned (OpenSpec.upto fnExactAndDepthSpec)

/-- 'laws.FnExactEvalWires', WHERE WHAT IT READS IS OF BULK AT MOST 1048576: true; the input reads as it did. -/
def fnExactEvalWiresUptoRow : OpenClaim := { program := "ytfpblgbokmpmjaa", sum := "a6146322e19031f7faccae49f1e96281ca5bb761db3a2edabe23e73bf7188369", func := "loop.example/g00979/laws.FnExactEvalWires", spec := "fnExactEvalWires", plainKeys := false, apart := false, narrowed := true }
def FnExactEvalWiresUptoSaid : Prop := fnExactEvalWiresUptoRow.holds Try.pinned (OpenSpec.upto fnExactEvalWiresSpec)

/-- 'laws.FnExactEvalCircuit', WHERE WHAT IT READS IS OF BULK AT MOST 1048576: true; the input reads as it did. -/
def fnExactEvalCircuitUptoRow : OpenClaim := { program := "ytfpblgbokmpmjaa", sum := "a6146322e19031f7faccae49f1e96281ca5bb761db3a2edabe23e73bf7188369", func := "loop.example/g00979/laws.FnExactEvalCircuit", spec := "fnExactEvalCircuit", plainKeys := false, apart := false, narrowed := true }
def FnExactEvalCircuitUptoSaid : Prop := fnExactEvalCircuitUptoRow.holds Try.pinned (OpenSpec.upto fnExactEvalCircuitSpec)

/-- 'laws.FnExactLiveGates', WHERE WHAT IT READS IS OF BULK AT MOST 1048576: true; the input reads as it did. -/
def fnExactLiveGatesUptoRow : OpenClaim := { program := "ytfpblgbokmpmjaa", sum := "a6146322e19031f7faccae49f1e96281ca5bb761db3a2edabe23e73bf7188369", func := "loop.example/g00979/laws.FnExactLiveGates", spec := "fnExactLiveGates", plainKeys := false, apart := false, narrowed := true }
def FnExactLiveGatesUptoSaid : Prop := fnExactLiveGatesUptoRow.holds Try.pinned (OpenSpec.upto fnExactLiveGatesSpec)

/-- 'laws.FnExactPrune', WHERE WHAT IT READS IS OF BULK AT MOST 1048576: true; the input reads as it did. -/
def fnExactPruneUptoRow : OpenClaim := { program := "ytfpblgbokmpmjaa", sum := "a6146322e19031f7faccae49f1e96281ca5bb761db3a2edabe23e73bf7188369", func := "loop.example/g00979/laws.FnExactPrune", spec := "fnExactPrune", plainKeys := false, apart := false, narrowed := true }
def FnExactPruneUptoSaid : Prop := fnExactPruneUptoRow.holds Try.pinned (OpenSpec.upto fnExactPruneSpec)

/-- 'laws.FnExactSimplify', WHERE WHAT IT READS IS OF BULK AT MOST 1048576: true; the input reads as it did. -/
def fnExactSimplifyUptoRow : OpenClaim := { program := "ytfpblgbokmpmjaa", sum := "a6146322e19031f7faccae49f1e96281ca5bb761db3a2edabe23e73bf7188369", func := "loop.example/g00979/laws.FnExactSimplify", spec := "fnExactSimplify", plainKeys := false, apart := false, narrowed := true }
def FnExactSimplifyUptoSaid : Prop := fnExactSimplifyUptoRow.holds Try.pinned (OpenSpec.upto fnExactSimplifySpec)

/-- 'laws.FnExactOptimize', WHERE WHAT IT READS IS OF BULK AT MOST 1048576: true; the input reads as it did. -/
def fnExactOptimizeUptoRow : OpenClaim := { program := "ytfpblgbokmpmjaa", sum := "a6146322e19031f7faccae49f1e96281ca5bb761db3a2edabe23e73bf7188369", func := "loop.example/g00979/laws.FnExactOptimize", spec := "fnExactOptimize", plainKeys := false, apart := false, narrowed := true }
def FnExactOptimizeUptoSaid : Prop := fnExactOptimizeUptoRow.holds Try.pinned (OpenSpec.upto fnExactOptimizeSpec)

/-- 'laws.FnFreeGates', WHERE WHAT IT READS IS OF BULK AT MOST 1048576: true; the input reads as it did. -/
def fnFreeGatesUptoRow : OpenClaim := { program := "ytfpblgbokmpmjaa", sum := "a6146322e19031f7faccae49f1e96281ca5bb761db3a2edabe23e73bf7188369", func := "loop.example/g00979/laws.FnFreeGates", spec := "fnFreeGates", plainKeys := false, apart := false, narrowed := true }
def FnFreeGatesUptoSaid : Prop := fnFreeGatesUptoRow.holds Try.pinned (OpenSpec.upto fnFreeGatesSpec)

/-- 'laws.FnCircuits', WHERE WHAT IT READS IS OF BULK AT MOST 1048576: true; the input reads as it did. -/
def fnCircuitsUptoRow : OpenClaim := { program := "ytfpblgbokmpmjaa", sum := "a6146322e19031f7faccae49f1e96281ca5bb761db3a2edabe23e73bf7188369", func := "loop.example/g00979/laws.FnCircuits", spec := "fnCircuits", plainKeys := false, apart := false, narrowed := true }
def FnCircuitsUptoSaid : Prop := fnCircuitsUptoRow.holds Try.pinned (OpenSpec.upto fnCircuitsSpec)

/-- 'laws.FnPruned', WHERE WHAT IT READS IS OF BULK AT MOST 1048576: true; the input reads as it did. -/
def fnPrunedUptoRow : OpenClaim := { program := "ytfpblgbokmpmjaa", sum := "a6146322e19031f7faccae49f1e96281ca5bb761db3a2edabe23e73bf7188369", func := "loop.example/g00979/laws.FnPruned", spec := "fnPruned", plainKeys := false, apart := false, narrowed := true }
def FnPrunedUptoSaid : Prop := fnPrunedUptoRow.holds Try.pinned (OpenSpec.upto fnPrunedSpec)

/-- 'laws.FnSimplified', WHERE WHAT IT READS IS OF BULK AT MOST 1048576: true; the input reads as it did. -/
def fnSimplifiedUptoRow : OpenClaim := { program := "ytfpblgbokmpmjaa", sum := "a6146322e19031f7faccae49f1e96281ca5bb761db3a2edabe23e73bf7188369", func := "loop.example/g00979/laws.FnSimplified", spec := "fnSimplified", plainKeys := false, apart := false, narrowed := true }
def FnSimplifiedUptoSaid : Prop := fnSimplifiedUptoRow.holds Try.pinned (OpenSpec.upto fnSimplifiedSpec)

/-- 'laws.FnExactRunCircuit', WHERE WHAT IT READS IS OF BULK AT MOST 1048576: true; the input reads as it did. -/
def fnExactRunCircuitUptoRow : OpenClaim := { program := "ytfpblgbokmpmjaa", sum := "a6146322e19031f7faccae49f1e96281ca5bb761db3a2edabe23e73bf7188369", func := "loop.example/g00979/laws.FnExactRunCircuit", spec := "fnExactRunCircuit", plainKeys := false, apart := false, narrowed := true }
def FnExactRunCircuitUptoSaid : Prop := fnExactRunCircuitUptoRow.holds Try.pinned (OpenSpec.upto fnExactRunCircuitSpec)

end Rows
end Go.Proofs.Ytfpblgbokmpmjaa

/-
  No cell of these rows narrows 'for every input' (looked for: loops, veiled, ifaces, maps, wideKeys, modest, calm, conditions, laid).
  DERIVED. THE GIVEN ROWS OF THIS SEAT. 8 by the template 'for every input the law returns true; each argument reads behind the call as it read before'; 0 by the template 'total and deterministic' (their statements: YtjibbkigjcncdaaTotals.lean).
  GIVEN WITH THE SEED: the statements are not yours to turn. If you find one false, say at which input.
  Laid BY PROGRAM, IN A SANDBOX (cutbox-rows.mjs): the forced cells as the released guide's own fill.sh prints them over the translation ac575ed0dc0e2f01… (all of the seat's roots in one cut). By AI agents, Wed Nov 11 2026. No macro, syntax, notation, axiom, sorry.
-/
import Derived.Test.YtjibbkigjcncdaaChecked
import GoSem.Claim
import GoSem.ClaimJoined
import GoSem.ClaimMapViews
import Derived.JoinedTies
import Derived.KernelRfl
namespace Go.Proofs.Ytjibbkigjcncdaa
/- THE CELL 'sum', in the pinned program and in every row, IS THE sha256 OF THE DUMP (.gsa) THAT YtjibbkigjcncdaaProg.lean LOADS. Nothing in Lean hashes anything: it is a label: what it is worth is what the hold of that sum in a sandbox is worth. -/
noncomputable def Try.pinned : Pinned := { name := "ytjibbkigjcncdaa", sum := "ac575ed0dc0e2f0194f1570e1c7f524fcae54e2c3a1e41ab947e26faf2905520", checked := Try.checked }
namespace Rows
def none {H : Type} : Left H := { results := [], args := [] }

/-- 'laws.FnExactIsLabel': WHATEVER THE INPUT: true; the input reads as it did. -/
def fnExactIsLabelSpec : ChangeSpec := { name := "fnExactIsLabel", fn := fun _ => fun
  | [d] => { results := [.lit (.bool true)], args := [d] }
  | _ => none }
def fnExactIsLabelRow : OpenClaim := { program := "ytjibbkigjcncdaa", sum := "ac575ed0dc0e2f0194f1570e1c7f524fcae54e2c3a1e41ab947e26faf2905520", func := "loop.example/g00979/laws.FnExactIsLabel", spec := "fnExactIsLabel", apart := false }
def FnExactIsLabelSaid : Prop := fnExactIsLabelRow.holds Try.pinned (OpenSpec.ofChange fnExactIsLabelSpec)

/-- ITS FALSE NEIGHBOUR: 'it returns false'. Refute it at one input. -/
def fnExactIsLabelWrong : ChangeSpec := { name := "fnExactIsLabel", fn := fun _ => fun
  | [d] => { results := [.lit (.bool false)], args := [d] }
  | _ => none }
def FnExactIsLabelWrongFalsely : Prop := fnExactIsLabelRow.holds Try.pinned (OpenSpec.ofChange fnExactIsLabelWrong)

/-- 'laws.FnExactLabelFor': WHATEVER THE INPUT: true; the input reads as it did. -/
def fnExactLabelForSpec : ChangeSpec := { name := "fnExactLabelFor", fn := fun _ => fun
  | [d1, d2, d3] => { results := [.lit (.bool true)], args := [d1, d2, d3] }
  | _ => none }
def fnExactLabelForRow : OpenClaim := { program := "ytjibbkigjcncdaa", sum := "ac575ed0dc0e2f0194f1570e1c7f524fcae54e2c3a1e41ab947e26faf2905520", func := "loop.example/g00979/laws.FnExactLabelFor", spec := "fnExactLabelFor", apart := false }
def FnExactLabelForSaid : Prop := fnExactLabelForRow.holds Try.pinned (OpenSpec.ofChange fnExactLabelForSpec)

/-- ITS FALSE NEIGHBOUR: 'it returns false'. Refute it at one input. -/
def fnExactLabelForWrong : ChangeSpec := { name := "fnExactLabelFor", fn := fun _ => fun
  | [d1, d2, d3] => { results := [.lit (.bool false)], args := [d1, d2, d3] }
  | _ => none }
def FnExactLabelForWrongFalsely : Prop := fnExactLabelForRow.holds Try.pinned (OpenSpec.ofChange fnExactLabelForWrong)

/-- 'laws.FnExactGateOk': WHATEVER THE INPUT: true; the input reads as it did. -/
def fnExactGateOkSpec : ChangeSpec := { name := "fnExactGateOk", fn := fun _ => fun
  | [d1, d2] => { results := [.lit (.bool true)], args := [d1, d2] }
  | _ => none }
def fnExactGateOkRow : OpenClaim := { program := "ytjibbkigjcncdaa", sum := "ac575ed0dc0e2f0194f1570e1c7f524fcae54e2c3a1e41ab947e26faf2905520", func := "loop.example/g00979/laws.FnExactGateOk", spec := "fnExactGateOk", apart := false }
def FnExactGateOkSaid : Prop := fnExactGateOkRow.holds Try.pinned (OpenSpec.ofChange fnExactGateOkSpec)

/-- ITS FALSE NEIGHBOUR: 'it returns false'. Refute it at one input. -/
def fnExactGateOkWrong : ChangeSpec := { name := "fnExactGateOk", fn := fun _ => fun
  | [d1, d2] => { results := [.lit (.bool false)], args := [d1, d2] }
  | _ => none }
def FnExactGateOkWrongFalsely : Prop := fnExactGateOkRow.holds Try.pinned (OpenSpec.ofChange fnExactGateOkWrong)

/-- 'laws.FnExactValueOf': WHATEVER THE INPUT: true; the input reads as it did. -/
def fnExactValueOfSpec : ChangeSpec := { name := "fnExactValueOf", fn := fun _ => fun
  | [d1, d2, d3] => { results := [.lit (.bool true)], args := [d1, d2, d3] }
  | _ => none }
def fnExactValueOfRow : OpenClaim := { program := "ytjibbkigjcncdaa", sum := "ac575ed0dc0e2f0194f1570e1c7f524fcae54e2c3a1e41ab947e26faf2905520", func := "loop.example/g00979/laws.FnExactValueOf", spec := "fnExactValueOf", apart := false }
def FnExactValueOfSaid : Prop := fnExactValueOfRow.holds Try.pinned (OpenSpec.ofChange fnExactValueOfSpec)

/-- ITS FALSE NEIGHBOUR: 'it returns false'. Refute it at one input. -/
def fnExactValueOfWrong : ChangeSpec := { name := "fnExactValueOf", fn := fun _ => fun
  | [d1, d2, d3] => { results := [.lit (.bool false)], args := [d1, d2, d3] }
  | _ => none }
def FnExactValueOfWrongFalsely : Prop := fnExactValueOfRow.holds Try.pinned (OpenSpec.ofChange fnExactValueOfWrong)

/-- 'laws.FnExactHashLabel': WHATEVER THE INPUT: true; the input reads as it did. -/
def fnExactHashLabelSpec : ChangeSpec := { name := "fnExactHashLabel", fn := fun _ => fun
  | [d1, d2] => { results := [.lit (.bool true)], args := [d1, d2] }
  | _ => none }
def fnExactHashLabelRow : OpenClaim := { program := "ytjibbkigjcncdaa", sum := "ac575ed0dc0e2f0194f1570e1c7f524fcae54e2c3a1e41ab947e26faf2905520", func := "loop.example/g00979/laws.FnExactHashLabel", spec := "fnExactHashLabel", apart := false }
def FnExactHashLabelSaid : Prop := fnExactHashLabelRow.holds Try.pinned (OpenSpec.ofChange fnExactHashLabelSpec)

/-- ITS FALSE NEIGHBOUR: 'it returns false'. Refute it at one input. -/
def fnExactHashLabelWrong : ChangeSpec := { name := "fnExactHashLabel", fn := fun _ => fun
  | [d1, d2] => { results := [.lit (.bool false)], args := [d1, d2] }
  | _ => none }
def FnExactHashLabelWrongFalsely : Prop := fnExactHashLabelRow.holds Try.pinned (OpenSpec.ofChange fnExactHashLabelWrong)

/-- 'laws.FnExactFlowNew': WHATEVER THE INPUT: true; the input reads as it did. -/
def fnExactFlowNewSpec : ChangeSpec := { name := "fnExactFlowNew", fn := fun _ => fun
  | [] => { results := [.lit (.bool true)], args := [] }
  | _ => none }
def fnExactFlowNewRow : OpenClaim := { program := "ytjibbkigjcncdaa", sum := "ac575ed0dc0e2f0194f1570e1c7f524fcae54e2c3a1e41ab947e26faf2905520", func := "loop.example/g00979/laws.FnExactFlowNew", spec := "fnExactFlowNew", apart := false }
def FnExactFlowNewSaid : Prop := fnExactFlowNewRow.holds Try.pinned (OpenSpec.ofChange fnExactFlowNewSpec)

/-- ITS FALSE NEIGHBOUR: 'it returns false'. Refute it at one input. -/
def fnExactFlowNewWrong : ChangeSpec := { name := "fnExactFlowNew", fn := fun _ => fun
  | [] => { results := [.lit (.bool false)], args := [] }
  | _ => none }
def FnExactFlowNewWrongFalsely : Prop := fnExactFlowNewRow.holds Try.pinned (OpenSpec.ofChange fnExactFlowNewWrong)

/-- 'laws.FnExactStateNew': WHATEVER THE INPUT: true; the input reads as it did. -/
def fnExactStateNewSpec : ChangeSpec := { name := "fnExactStateNew", fn := fun _ => fun
  | [] => { results := [.lit (.bool true)], args := [] }
  | _ => none }
def fnExactStateNewRow : OpenClaim := { program := "ytjibbkigjcncdaa", sum := "ac575ed0dc0e2f0194f1570e1c7f524fcae54e2c3a1e41ab947e26faf2905520", func := "loop.example/g00979/laws.FnExactStateNew", spec := "fnExactStateNew", apart := false }
def FnExactStateNewSaid : Prop := fnExactStateNewRow.holds Try.pinned (OpenSpec.ofChange fnExactStateNewSpec)

/-- ITS FALSE NEIGHBOUR: 'it returns false'. Refute it at one input. -/
def fnExactStateNewWrong : ChangeSpec := { name := "fnExactStateNew", fn := fun _ => fun
  | [] => { results := [.lit (.bool false)], args := [] }
  | _ => none }
def FnExactStateNewWrongFalsely : Prop := fnExactStateNewRow.holds Try.pinned (OpenSpec.ofChange fnExactStateNewWrong)

/-- 'laws.FnExactOperate': WHATEVER THE INPUT: true; the input reads as it did. -/
def fnExactOperateSpec : ChangeSpec := { name := "fnExactOperate", fn := fun _ => fun
  | [d1, d2, d3] => { results := [.lit (.bool true)], args := [d1, d2, d3] }
  | _ => none }
def fnExactOperateRow : OpenClaim := { program := "ytjibbkigjcncdaa", sum := "ac575ed0dc0e2f0194f1570e1c7f524fcae54e2c3a1e41ab947e26faf2905520", func := "loop.example/g00979/laws.FnExactOperate", spec := "fnExactOperate", apart := false }
def FnExactOperateSaid : Prop := fnExactOperateRow.holds Try.pinned (OpenSpec.ofChange fnExactOperateSpec)

/-- ITS FALSE NEIGHBOUR: 'it returns false'. Refute it at one input. -/
def fnExactOperateWrong : ChangeSpec := { name := "fnExactOperate", fn := fun _ => fun
  | [d1, d2, d3] => { results := [.lit (.bool false)], args := [d1, d2, d3] }
  | _ => none }
def FnExactOperateWrongFalsely : Prop := fnExactOperateRow.holds Try.pinned (OpenSpec.ofChange fnExactOperateWrong)

/- THE SECOND FORM. 'bulk': how many values and letters a reading holds, each counted each time it is reached (what is shared counts as often as it is met; a slice's spare places count too). A statement '..UptoSaid' is the law's where the arguments, and the package variables that the reading takes, are together of bulk at most 1048576: NARROWER than '..Said'. Prove '..Said' where nothing that the law and all that it calls make is longer than what came in: it says more and counts as full. Else prove '..UptoSaid'. A law counts once. -/
mutual
def uptoBulk {H : Type} : DataW H → Nat
  | .lit (.string bytes) => bytes.length + 1
  | .lit _ => 1
  | .nil => 1
  | .ptr d => uptoBulk d + 1
  | .slice elems spare => uptoBulkAll elems + uptoBulkAll spare + 1
  | .agg parts => uptoBulkAll parts + 1
  | .iface _ d => uptoBulk d + 1
  | .map entries => uptoBulkEntries entries + 1
  | .held _ => 1
def uptoBulkAll {H : Type} : List (DataW H) → Nat
  | [] => 0
  | d :: r => uptoBulk d + uptoBulkAll r
def uptoBulkEntries {H : Type} : List (Lit × DataW H) → Nat
  | [] => 0
  | x :: r => uptoBulkEntry x + uptoBulkEntries r
def uptoBulkEntry {H : Type} : Lit × DataW H → Nat
  | (.string bytes, d) => bytes.length + uptoBulk d + 1
  | (_, d) => uptoBulk d + 1
 end
def uptoSmall : (H : Type) → List (DataW H) → Bool := fun _ ds => decide (uptoBulkAll ds ≤ 1048576)
def OpenSpec.upto (s : _root_.Go.ChangeSpec) : _root_.Go.OpenSpec := { _root_.Go.OpenSpec.ofChange s with cond := some uptoSmall }

/-- 'laws.FnExactIsLabel', WHERE WHAT IT READS IS OF BULK AT MOST 1048576: true; the input reads as it did. -/
def fnExactIsLabelUptoRow : OpenClaim := { program := "ytjibbkigjcncdaa", sum := "ac575ed0dc0e2f0194f1570e1c7f524fcae54e2c3a1e41ab947e26faf2905520", func := "loop.example/g00979/laws.FnExactIsLabel", spec := "fnExactIsLabel", apart := false, narrowed := true }
def FnExactIsLabelUptoSaid : Prop := fnExactIsLabelUptoRow.holds Try.pinned (OpenSpec.upto fnExactIsLabelSpec)

/-- 'laws.FnExactLabelFor', WHERE WHAT IT READS IS OF BULK AT MOST 1048576: true; the input reads as it did. -/
def fnExactLabelForUptoRow : OpenClaim := { program := "ytjibbkigjcncdaa", sum := "ac575ed0dc0e2f0194f1570e1c7f524fcae54e2c3a1e41ab947e26faf2905520", func := "loop.example/g00979/laws.FnExactLabelFor", spec := "fnExactLabelFor", apart := false, narrowed := true }
def FnExactLabelForUptoSaid : Prop := fnExactLabelForUptoRow.holds Try.pinned (OpenSpec.upto fnExactLabelForSpec)

/-- 'laws.FnExactGateOk', WHERE WHAT IT READS IS OF BULK AT MOST 1048576: true; the input reads as it did. -/
def fnExactGateOkUptoRow : OpenClaim := { program := "ytjibbkigjcncdaa", sum := "ac575ed0dc0e2f0194f1570e1c7f524fcae54e2c3a1e41ab947e26faf2905520", func := "loop.example/g00979/laws.FnExactGateOk", spec := "fnExactGateOk", apart := false, narrowed := true }
def FnExactGateOkUptoSaid : Prop := fnExactGateOkUptoRow.holds Try.pinned (OpenSpec.upto fnExactGateOkSpec)

/-- 'laws.FnExactValueOf', WHERE WHAT IT READS IS OF BULK AT MOST 1048576: true; the input reads as it did. -/
def fnExactValueOfUptoRow : OpenClaim := { program := "ytjibbkigjcncdaa", sum := "ac575ed0dc0e2f0194f1570e1c7f524fcae54e2c3a1e41ab947e26faf2905520", func := "loop.example/g00979/laws.FnExactValueOf", spec := "fnExactValueOf", apart := false, narrowed := true }
def FnExactValueOfUptoSaid : Prop := fnExactValueOfUptoRow.holds Try.pinned (OpenSpec.upto fnExactValueOfSpec)

/-- 'laws.FnExactHashLabel', WHERE WHAT IT READS IS OF BULK AT MOST 1048576: true; the input reads as it did. -/
def fnExactHashLabelUptoRow : OpenClaim := { program := "ytjibbkigjcncdaa", sum := "ac575ed0dc0e2f0194f1570e1c7f524fcae54e2c3a1e41ab947e26faf2905520", func := "loop.example/g00979/laws.FnExactHashLabel", spec := "fnExactHashLabel", apart := false, narrowed := true }
def FnExactHashLabelUptoSaid : Prop := fnExactHashLabelUptoRow.holds Try.pinned (OpenSpec.upto fnExactHashLabelSpec)

/-- 'laws.FnExactFlowNew', WHERE WHAT IT READS IS OF BULK AT MOST 1048576: true; the input reads as it did. -/
def fnExactFlowNewUptoRow : OpenClaim := { program := "ytjibbkigjcncdaa", sum := "ac575ed0dc0e2f0194f1570e1c7f524fcae54e2c3a1e41ab947e26faf2905520", func := "loop.example/g00979/laws.FnExactFlowNew", spec := "fnExactFlowNew", apart := false, narrowed := true }
def FnExactFlowNewUptoSaid : Prop := fnExactFlowNewUptoRow.holds Try.pinned (OpenSpec.upto fnExactFlowNewSpec)

/-- 'laws.FnExactStateNew', WHERE WHAT IT READS IS OF BULK AT MOST 1048576: true; the input reads as it did. -/
def fnExactStateNewUptoRow : OpenClaim := { program := "ytjibbkigjcncdaa", sum := "ac575ed0dc0e2f0194f1570e1c7f524fcae54e2c3a1e41ab947e26faf2905520", func := "loop.example/g00979/laws.FnExactStateNew", spec := "fnExactStateNew", apart := false, narrowed := true }
def FnExactStateNewUptoSaid : Prop := fnExactStateNewUptoRow.holds Try.pinned (OpenSpec.upto fnExactStateNewSpec)

/-- 'laws.FnExactOperate', WHERE WHAT IT READS IS OF BULK AT MOST 1048576: true; the input reads as it did. -/
def fnExactOperateUptoRow : OpenClaim := { program := "ytjibbkigjcncdaa", sum := "ac575ed0dc0e2f0194f1570e1c7f524fcae54e2c3a1e41ab947e26faf2905520", func := "loop.example/g00979/laws.FnExactOperate", spec := "fnExactOperate", apart := false, narrowed := true }
def FnExactOperateUptoSaid : Prop := fnExactOperateUptoRow.holds Try.pinned (OpenSpec.upto fnExactOperateSpec)

end Rows
end Go.Proofs.Ytjibbkigjcncdaa

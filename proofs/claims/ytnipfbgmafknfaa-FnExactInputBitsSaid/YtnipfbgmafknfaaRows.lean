/-
  No cell of these rows narrows 'for every input' (looked for: loops, veiled, ifaces, maps, wideKeys, modest, calm, conditions, laid).
  DERIVED. THE GIVEN ROWS OF THIS SEAT. 8 by the template 'for every input the law returns true; each argument reads behind the call as it read before'; 0 by the template 'total and deterministic' (their statements: YtnipfbgmafknfaaTotals.lean).
  GIVEN WITH THE SEED: the statements are not yours to turn. If you find one false, say at which input.
  Laid BY PROGRAM, IN A SANDBOX (cutbox-rows.mjs): the forced cells as the released guide's own fill.sh prints them over the translation be61ed3c672ac9ee… (all of the seat's roots in one cut). By AI agents, Wed Nov 11 2026. No macro, syntax, notation, axiom, sorry.
-/
import Derived.Test.YtnipfbgmafknfaaChecked
import GoSem.Claim
import GoSem.ClaimJoined
import GoSem.ClaimMapViews
import Derived.JoinedTies
import Derived.KernelRfl
namespace Go.Proofs.Ytnipfbgmafknfaa
/- THE CELL 'sum', in the pinned program and in every row, IS THE sha256 OF THE DUMP (.gsa) THAT YtnipfbgmafknfaaProg.lean LOADS. Nothing in Lean hashes anything: it is a label: what it is worth is what the hold of that sum in a sandbox is worth. -/
noncomputable def Try.pinned : Pinned := { name := "ytnipfbgmafknfaa", sum := "be61ed3c672ac9ee20189dfde3ba98c9226ad9a8e6f76f5880696a215bdaa5d6", checked := Try.checked }
namespace Rows
def none {H : Type} : Left H := { results := [], args := [] }

/-- 'laws.FnOperations': WHATEVER THE INPUT: true; the input reads as it did. -/
def fnOperationsSpec : ChangeSpec := { name := "fnOperations", fn := fun _ => fun
  | [d] => { results := [.lit (.bool true)], args := [d] }
  | _ => none }
def fnOperationsRow : OpenClaim := { program := "ytnipfbgmafknfaa", sum := "be61ed3c672ac9ee20189dfde3ba98c9226ad9a8e6f76f5880696a215bdaa5d6", func := "loop.example/g00979/laws.FnOperations", spec := "fnOperations", apart := false }
def FnOperationsSaid : Prop := fnOperationsRow.holds Try.pinned (OpenSpec.ofChange fnOperationsSpec)

/-- ITS FALSE NEIGHBOUR: 'it returns false'. Refute it at one input. -/
def fnOperationsWrong : ChangeSpec := { name := "fnOperations", fn := fun _ => fun
  | [d] => { results := [.lit (.bool false)], args := [d] }
  | _ => none }
def FnOperationsWrongFalsely : Prop := fnOperationsRow.holds Try.pinned (OpenSpec.ofChange fnOperationsWrong)

/-- 'laws.FnLabels': WHATEVER THE INPUT: true; the input reads as it did. -/
def fnLabelsSpec : ChangeSpec := { name := "fnLabels", fn := fun _ => fun
  | [d] => { results := [.lit (.bool true)], args := [d] }
  | _ => none }
def fnLabelsRow : OpenClaim := { program := "ytnipfbgmafknfaa", sum := "be61ed3c672ac9ee20189dfde3ba98c9226ad9a8e6f76f5880696a215bdaa5d6", func := "loop.example/g00979/laws.FnLabels", spec := "fnLabels", apart := false }
def FnLabelsSaid : Prop := fnLabelsRow.holds Try.pinned (OpenSpec.ofChange fnLabelsSpec)

/-- ITS FALSE NEIGHBOUR: 'it returns false'. Refute it at one input. -/
def fnLabelsWrong : ChangeSpec := { name := "fnLabels", fn := fun _ => fun
  | [d] => { results := [.lit (.bool false)], args := [d] }
  | _ => none }
def FnLabelsWrongFalsely : Prop := fnLabelsRow.holds Try.pinned (OpenSpec.ofChange fnLabelsWrong)

/-- 'laws.FnExactDeltaOf': WHATEVER THE INPUT: true; the input reads as it did. -/
def fnExactDeltaOfSpec : ChangeSpec := { name := "fnExactDeltaOf", fn := fun _ => fun
  | [d] => { results := [.lit (.bool true)], args := [d] }
  | _ => none }
def fnExactDeltaOfRow : OpenClaim := { program := "ytnipfbgmafknfaa", sum := "be61ed3c672ac9ee20189dfde3ba98c9226ad9a8e6f76f5880696a215bdaa5d6", func := "loop.example/g00979/laws.FnExactDeltaOf", spec := "fnExactDeltaOf", apart := false }
def FnExactDeltaOfSaid : Prop := fnExactDeltaOfRow.holds Try.pinned (OpenSpec.ofChange fnExactDeltaOfSpec)

/-- ITS FALSE NEIGHBOUR: 'it returns false'. Refute it at one input. -/
def fnExactDeltaOfWrong : ChangeSpec := { name := "fnExactDeltaOf", fn := fun _ => fun
  | [d] => { results := [.lit (.bool false)], args := [d] }
  | _ => none }
def FnExactDeltaOfWrongFalsely : Prop := fnExactDeltaOfRow.holds Try.pinned (OpenSpec.ofChange fnExactDeltaOfWrong)

/-- 'laws.FnExactInputZero': WHATEVER THE INPUT: true; the input reads as it did. -/
def fnExactInputZeroSpec : ChangeSpec := { name := "fnExactInputZero", fn := fun _ => fun
  | [d1, d2] => { results := [.lit (.bool true)], args := [d1, d2] }
  | _ => none }
def fnExactInputZeroRow : OpenClaim := { program := "ytnipfbgmafknfaa", sum := "be61ed3c672ac9ee20189dfde3ba98c9226ad9a8e6f76f5880696a215bdaa5d6", func := "loop.example/g00979/laws.FnExactInputZero", spec := "fnExactInputZero", apart := false }
def FnExactInputZeroSaid : Prop := fnExactInputZeroRow.holds Try.pinned (OpenSpec.ofChange fnExactInputZeroSpec)

/-- ITS FALSE NEIGHBOUR: 'it returns false'. Refute it at one input. -/
def fnExactInputZeroWrong : ChangeSpec := { name := "fnExactInputZero", fn := fun _ => fun
  | [d1, d2] => { results := [.lit (.bool false)], args := [d1, d2] }
  | _ => none }
def FnExactInputZeroWrongFalsely : Prop := fnExactInputZeroRow.holds Try.pinned (OpenSpec.ofChange fnExactInputZeroWrong)

/-- 'laws.FnExactWordsOf': WHATEVER THE INPUT: true; the input reads as it did. -/
def fnExactWordsOfSpec : ChangeSpec := { name := "fnExactWordsOf", fn := fun _ => fun
  | [d] => { results := [.lit (.bool true)], args := [d] }
  | _ => none }
def fnExactWordsOfRow : OpenClaim := { program := "ytnipfbgmafknfaa", sum := "be61ed3c672ac9ee20189dfde3ba98c9226ad9a8e6f76f5880696a215bdaa5d6", func := "loop.example/g00979/laws.FnExactWordsOf", spec := "fnExactWordsOf", apart := false }
def FnExactWordsOfSaid : Prop := fnExactWordsOfRow.holds Try.pinned (OpenSpec.ofChange fnExactWordsOfSpec)

/-- ITS FALSE NEIGHBOUR: 'it returns false'. Refute it at one input. -/
def fnExactWordsOfWrong : ChangeSpec := { name := "fnExactWordsOf", fn := fun _ => fun
  | [d] => { results := [.lit (.bool false)], args := [d] }
  | _ => none }
def FnExactWordsOfWrongFalsely : Prop := fnExactWordsOfRow.holds Try.pinned (OpenSpec.ofChange fnExactWordsOfWrong)

/-- 'laws.FnExactStateOk': WHATEVER THE INPUT: true; the input reads as it did. -/
def fnExactStateOkSpec : ChangeSpec := { name := "fnExactStateOk", fn := fun _ => fun
  | [d] => { results := [.lit (.bool true)], args := [d] }
  | _ => none }
def fnExactStateOkRow : OpenClaim := { program := "ytnipfbgmafknfaa", sum := "be61ed3c672ac9ee20189dfde3ba98c9226ad9a8e6f76f5880696a215bdaa5d6", func := "loop.example/g00979/laws.FnExactStateOk", spec := "fnExactStateOk", apart := false }
def FnExactStateOkSaid : Prop := fnExactStateOkRow.holds Try.pinned (OpenSpec.ofChange fnExactStateOkSpec)

/-- ITS FALSE NEIGHBOUR: 'it returns false'. Refute it at one input. -/
def fnExactStateOkWrong : ChangeSpec := { name := "fnExactStateOk", fn := fun _ => fun
  | [d] => { results := [.lit (.bool false)], args := [d] }
  | _ => none }
def FnExactStateOkWrongFalsely : Prop := fnExactStateOkRow.holds Try.pinned (OpenSpec.ofChange fnExactStateOkWrong)

/-- 'laws.FnExactInputsOk': WHATEVER THE INPUT: true; the input reads as it did. -/
def fnExactInputsOkSpec : ChangeSpec := { name := "fnExactInputsOk", fn := fun _ => fun
  | [d] => { results := [.lit (.bool true)], args := [d] }
  | _ => none }
def fnExactInputsOkRow : OpenClaim := { program := "ytnipfbgmafknfaa", sum := "be61ed3c672ac9ee20189dfde3ba98c9226ad9a8e6f76f5880696a215bdaa5d6", func := "loop.example/g00979/laws.FnExactInputsOk", spec := "fnExactInputsOk", apart := false }
def FnExactInputsOkSaid : Prop := fnExactInputsOkRow.holds Try.pinned (OpenSpec.ofChange fnExactInputsOkSpec)

/-- ITS FALSE NEIGHBOUR: 'it returns false'. Refute it at one input. -/
def fnExactInputsOkWrong : ChangeSpec := { name := "fnExactInputsOk", fn := fun _ => fun
  | [d] => { results := [.lit (.bool false)], args := [d] }
  | _ => none }
def FnExactInputsOkWrongFalsely : Prop := fnExactInputsOkRow.holds Try.pinned (OpenSpec.ofChange fnExactInputsOkWrong)

/-- 'laws.FnExactInputBits': WHATEVER THE INPUT: true; the input reads as it did. -/
def fnExactInputBitsSpec : ChangeSpec := { name := "fnExactInputBits", fn := fun _ => fun
  | [d] => { results := [.lit (.bool true)], args := [d] }
  | _ => none }
def fnExactInputBitsRow : OpenClaim := { program := "ytnipfbgmafknfaa", sum := "be61ed3c672ac9ee20189dfde3ba98c9226ad9a8e6f76f5880696a215bdaa5d6", func := "loop.example/g00979/laws.FnExactInputBits", spec := "fnExactInputBits", apart := false }
def FnExactInputBitsSaid : Prop := fnExactInputBitsRow.holds Try.pinned (OpenSpec.ofChange fnExactInputBitsSpec)

/-- ITS FALSE NEIGHBOUR: 'it returns false'. Refute it at one input. -/
def fnExactInputBitsWrong : ChangeSpec := { name := "fnExactInputBits", fn := fun _ => fun
  | [d] => { results := [.lit (.bool false)], args := [d] }
  | _ => none }
def FnExactInputBitsWrongFalsely : Prop := fnExactInputBitsRow.holds Try.pinned (OpenSpec.ofChange fnExactInputBitsWrong)

/- THE SECOND FORM. 'bulk': how many values and letters a reading holds, each counted each time it is reached (what is shared counts as often as it is met; a slice's spare places count too). A statement '..UptoSaid' is the law's where the arguments, and the package variables that the reading takes, are together of bulk at most 1048576: NARROWER than '..Said'. Prove '..Said' where nothing that the law and all that it calls make is longer than what came in: it says more and counts as full. Else prove '..UptoSaid'. A law counts once. -/
mutual
def uptoBulk {H : Type} : DataW H → Nat
  | .lit (.string bytes) => bytes.length + 1
  | .lit _ => 1
  | .nil => 1
  | .ptr d => uptoBulk d + 1
  | .slice elems spare => uptoBulkAll elems + uptoBulkAll spare + 1
  | .agg parts => uptoBulkAll parts + 1
  | .iface _ d => uptoBulk d + 1
  | .map entries => uptoBulkEntries entries + 1
  | .held _ => 1
def uptoBulkAll {H : Type} : List (DataW H) → Nat
  | [] => 0
  | d :: r => uptoBulk d + uptoBulkAll r
def uptoBulkEntries {H : Type} : List (Lit × DataW H) → Nat
  | [] => 0
  | x :: r => uptoBulkEntry x + uptoBulkEntries r
def uptoBulkEntry {H : Type} : Lit × DataW H → Nat
  | (.string bytes, d) => bytes.length + uptoBulk d + 1
  | (_, d) => uptoBulk d + 1
 end
def uptoSmall : (H : Type) → List (DataW H) → Bool := fun _ ds => decide (uptoBulkAll ds ≤ 1048576)
def OpenSpec.upto (s : _root_.Go.ChangeSpec) : _root_.Go.OpenSpec := { _root_.Go.OpenSpec.ofChange s with cond := some uptoSmall }

/-- 'laws.FnOperations', WHERE WHAT IT READS IS OF BULK AT MOST 1048576: true; the input reads as it did. -/
def fnOperationsUptoRow : OpenClaim := { program := "ytnipfbgmafknfaa", sum := "be61ed3c672ac9ee20189dfde3ba98c9226ad9a8e6f76f5880696a215bdaa5d6", func := "loop.example/g00979/laws.FnOperations", spec := "fnOperations", apart := false, narrowed := true }
def FnOperationsUptoSaid : Prop := fnOperationsUptoRow.holds Try.pinned (OpenSpec.upto fnOperationsSpec)

/-- 'laws.FnLabels', WHERE WHAT IT READS IS OF BULK AT MOST 1048576: true; the input reads as it did. -/
def fnLabelsUptoRow : OpenClaim := { program := "ytnipfbgmafknfaa", sum := "be61ed3c672ac9ee20189dfde3ba98c9226ad9a8e6f76f5880696a215bdaa5d6", func := "loop.example/g00979/laws.FnLabels", spec := "fnLabels", apart := false, narrowed := true }
def FnLabelsUptoSaid : Prop := fnLabelsUptoRow.holds Try.pinned (OpenSpec.upto fnLabelsSpec)

/-- 'laws.FnExactDeltaOf', WHERE WHAT IT READS IS OF BULK AT MOST 1048576: true; the input reads as it did. -/
def fnExactDeltaOfUptoRow : OpenClaim := { program := "ytnipfbgmafknfaa", sum := "be61ed3c672ac9ee20189dfde3ba98c9226ad9a8e6f76f5880696a215bdaa5d6", func := "loop.example/g00979/laws.FnExactDeltaOf", spec := "fnExactDeltaOf", apart := false, narrowed := true }
def FnExactDeltaOfUptoSaid : Prop := fnExactDeltaOfUptoRow.holds Try.pinned (OpenSpec.upto fnExactDeltaOfSpec)

/-- 'laws.FnExactInputZero', WHERE WHAT IT READS IS OF BULK AT MOST 1048576: true; the input reads as it did. -/
def fnExactInputZeroUptoRow : OpenClaim := { program := "ytnipfbgmafknfaa", sum := "be61ed3c672ac9ee20189dfde3ba98c9226ad9a8e6f76f5880696a215bdaa5d6", func := "loop.example/g00979/laws.FnExactInputZero", spec := "fnExactInputZero", apart := false, narrowed := true }
def FnExactInputZeroUptoSaid : Prop := fnExactInputZeroUptoRow.holds Try.pinned (OpenSpec.upto fnExactInputZeroSpec)

/-- 'laws.FnExactWordsOf', WHERE WHAT IT READS IS OF BULK AT MOST 1048576: true; the input reads as it did. -/
def fnExactWordsOfUptoRow : OpenClaim := { program := "ytnipfbgmafknfaa", sum := "be61ed3c672ac9ee20189dfde3ba98c9226ad9a8e6f76f5880696a215bdaa5d6", func := "loop.example/g00979/laws.FnExactWordsOf", spec := "fnExactWordsOf", apart := false, narrowed := true }
def FnExactWordsOfUptoSaid : Prop := fnExactWordsOfUptoRow.holds Try.pinned (OpenSpec.upto fnExactWordsOfSpec)

/-- 'laws.FnExactStateOk', WHERE WHAT IT READS IS OF BULK AT MOST 1048576: true; the input reads as it did. -/
def fnExactStateOkUptoRow : OpenClaim := { program := "ytnipfbgmafknfaa", sum := "be61ed3c672ac9ee20189dfde3ba98c9226ad9a8e6f76f5880696a215bdaa5d6", func := "loop.example/g00979/laws.FnExactStateOk", spec := "fnExactStateOk", apart := false, narrowed := true }
def FnExactStateOkUptoSaid : Prop := fnExactStateOkUptoRow.holds Try.pinned (OpenSpec.upto fnExactStateOkSpec)

/-- 'laws.FnExactInputsOk', WHERE WHAT IT READS IS OF BULK AT MOST 1048576: true; the input reads as it did. -/
def fnExactInputsOkUptoRow : OpenClaim := { program := "ytnipfbgmafknfaa", sum := "be61ed3c672ac9ee20189dfde3ba98c9226ad9a8e6f76f5880696a215bdaa5d6", func := "loop.example/g00979/laws.FnExactInputsOk", spec := "fnExactInputsOk", apart := false, narrowed := true }
def FnExactInputsOkUptoSaid : Prop := fnExactInputsOkUptoRow.holds Try.pinned (OpenSpec.upto fnExactInputsOkSpec)

/-- 'laws.FnExactInputBits', WHERE WHAT IT READS IS OF BULK AT MOST 1048576: true; the input reads as it did. -/
def fnExactInputBitsUptoRow : OpenClaim := { program := "ytnipfbgmafknfaa", sum := "be61ed3c672ac9ee20189dfde3ba98c9226ad9a8e6f76f5880696a215bdaa5d6", func := "loop.example/g00979/laws.FnExactInputBits", spec := "fnExactInputBits", apart := false, narrowed := true }
def FnExactInputBitsUptoSaid : Prop := fnExactInputBitsUptoRow.holds Try.pinned (OpenSpec.upto fnExactInputBitsSpec)

end Rows
end Go.Proofs.Ytnipfbgmafknfaa

/-
  No cell of these rows narrows 'for every input' (looked for: loops, veiled, ifaces, maps, wideKeys, modest, calm, conditions, laid).
  DERIVED. THE GIVEN ROWS OF THIS SEAT. 9 by the template 'for every input the law returns true; each argument reads behind the call as it read before'; 0 by the template 'total and deterministic' (their statements: YtfcijloiebnloaaTotals.lean).
  GIVEN WITH THE SEED: the statements are not yours to turn. If you find one false, say at which input.
  Laid BY PROGRAM, IN A SANDBOX (cutbox-rows.mjs): the forced cells as the released guide's own fill.sh prints them over the translation 97f70850cca0ac32… (all of the seat's roots in one cut). By AI agents, Wed Nov 11 2026. No macro, syntax, notation, axiom, sorry.
-/
import Derived.Test.YtfcijloiebnloaaChecked
import GoSem.Claim
import GoSem.ClaimJoined
import GoSem.ClaimMapViews
import Derived.JoinedTies
import Derived.KernelRfl
namespace Go.Proofs.Ytfcijloiebnloaa
/- THE CELL 'sum', in the pinned program and in every row, IS THE sha256 OF THE DUMP (.gsa) THAT YtfcijloiebnloaaProg.lean LOADS. Nothing in Lean hashes anything: it is a label: what it is worth is what the hold of that sum in a sandbox is worth. -/
noncomputable def Try.pinned : Pinned := { name := "ytfcijloiebnloaa", sum := "97f70850cca0ac32cdfa6f6e22f86f72479d5a3599317057a5afdea749511078", checked := Try.checked }
namespace Rows
def none {H : Type} : Left H := { results := [], args := [] }

/-- 'laws.FnExactWordConst': WHATEVER THE INPUT: true; the input reads as it did. -/
def fnExactWordConstSpec : ChangeSpec := { name := "fnExactWordConst", fn := fun _ => fun
  | [d1, d2] => { results := [.lit (.bool true)], args := [d1, d2] }
  | _ => none }
def fnExactWordConstRow : OpenClaim := { program := "ytfcijloiebnloaa", sum := "97f70850cca0ac32cdfa6f6e22f86f72479d5a3599317057a5afdea749511078", func := "loop.example/g00979/laws.FnExactWordConst", spec := "fnExactWordConst", apart := false }
def FnExactWordConstSaid : Prop := fnExactWordConstRow.holds Try.pinned (OpenSpec.ofChange fnExactWordConstSpec)

/-- ITS FALSE NEIGHBOUR: 'it returns false'. Refute it at one input. -/
def fnExactWordConstWrong : ChangeSpec := { name := "fnExactWordConst", fn := fun _ => fun
  | [d1, d2] => { results := [.lit (.bool false)], args := [d1, d2] }
  | _ => none }
def FnExactWordConstWrongFalsely : Prop := fnExactWordConstRow.holds Try.pinned (OpenSpec.ofChange fnExactWordConstWrong)

/-- 'laws.FnExactWordMux': WHATEVER THE INPUT: true; the input reads as it did. -/
def fnExactWordMuxSpec : ChangeSpec := { name := "fnExactWordMux", fn := fun _ => fun
  | [d1, d2, d3, d4] => { results := [.lit (.bool true)], args := [d1, d2, d3, d4] }
  | _ => none }
def fnExactWordMuxRow : OpenClaim := { program := "ytfcijloiebnloaa", sum := "97f70850cca0ac32cdfa6f6e22f86f72479d5a3599317057a5afdea749511078", func := "loop.example/g00979/laws.FnExactWordMux", spec := "fnExactWordMux", apart := false }
def FnExactWordMuxSaid : Prop := fnExactWordMuxRow.holds Try.pinned (OpenSpec.ofChange fnExactWordMuxSpec)

/-- ITS FALSE NEIGHBOUR: 'it returns false'. Refute it at one input. -/
def fnExactWordMuxWrong : ChangeSpec := { name := "fnExactWordMux", fn := fun _ => fun
  | [d1, d2, d3, d4] => { results := [.lit (.bool false)], args := [d1, d2, d3, d4] }
  | _ => none }
def FnExactWordMuxWrongFalsely : Prop := fnExactWordMuxRow.holds Try.pinned (OpenSpec.ofChange fnExactWordMuxWrong)

/-- 'laws.FnExactWordEqual': WHATEVER THE INPUT: true; the input reads as it did. -/
def fnExactWordEqualSpec : ChangeSpec := { name := "fnExactWordEqual", fn := fun _ => fun
  | [d1, d2, d3] => { results := [.lit (.bool true)], args := [d1, d2, d3] }
  | _ => none }
def fnExactWordEqualRow : OpenClaim := { program := "ytfcijloiebnloaa", sum := "97f70850cca0ac32cdfa6f6e22f86f72479d5a3599317057a5afdea749511078", func := "loop.example/g00979/laws.FnExactWordEqual", spec := "fnExactWordEqual", apart := false }
def FnExactWordEqualSaid : Prop := fnExactWordEqualRow.holds Try.pinned (OpenSpec.ofChange fnExactWordEqualSpec)

/-- ITS FALSE NEIGHBOUR: 'it returns false'. Refute it at one input. -/
def fnExactWordEqualWrong : ChangeSpec := { name := "fnExactWordEqual", fn := fun _ => fun
  | [d1, d2, d3] => { results := [.lit (.bool false)], args := [d1, d2, d3] }
  | _ => none }
def FnExactWordEqualWrongFalsely : Prop := fnExactWordEqualRow.holds Try.pinned (OpenSpec.ofChange fnExactWordEqualWrong)

/-- 'laws.FnExactWordAdd': WHATEVER THE INPUT: true; the input reads as it did. -/
def fnExactWordAddSpec : ChangeSpec := { name := "fnExactWordAdd", fn := fun _ => fun
  | [d1, d2, d3] => { results := [.lit (.bool true)], args := [d1, d2, d3] }
  | _ => none }
def fnExactWordAddRow : OpenClaim := { program := "ytfcijloiebnloaa", sum := "97f70850cca0ac32cdfa6f6e22f86f72479d5a3599317057a5afdea749511078", func := "loop.example/g00979/laws.FnExactWordAdd", spec := "fnExactWordAdd", apart := false }
def FnExactWordAddSaid : Prop := fnExactWordAddRow.holds Try.pinned (OpenSpec.ofChange fnExactWordAddSpec)

/-- ITS FALSE NEIGHBOUR: 'it returns false'. Refute it at one input. -/
def fnExactWordAddWrong : ChangeSpec := { name := "fnExactWordAdd", fn := fun _ => fun
  | [d1, d2, d3] => { results := [.lit (.bool false)], args := [d1, d2, d3] }
  | _ => none }
def FnExactWordAddWrongFalsely : Prop := fnExactWordAddRow.holds Try.pinned (OpenSpec.ofChange fnExactWordAddWrong)

/-- 'laws.FnExactWordLess': WHATEVER THE INPUT: true; the input reads as it did. -/
def fnExactWordLessSpec : ChangeSpec := { name := "fnExactWordLess", fn := fun _ => fun
  | [d1, d2, d3] => { results := [.lit (.bool true)], args := [d1, d2, d3] }
  | _ => none }
def fnExactWordLessRow : OpenClaim := { program := "ytfcijloiebnloaa", sum := "97f70850cca0ac32cdfa6f6e22f86f72479d5a3599317057a5afdea749511078", func := "loop.example/g00979/laws.FnExactWordLess", spec := "fnExactWordLess", apart := false }
def FnExactWordLessSaid : Prop := fnExactWordLessRow.holds Try.pinned (OpenSpec.ofChange fnExactWordLessSpec)

/-- ITS FALSE NEIGHBOUR: 'it returns false'. Refute it at one input. -/
def fnExactWordLessWrong : ChangeSpec := { name := "fnExactWordLess", fn := fun _ => fun
  | [d1, d2, d3] => { results := [.lit (.bool false)], args := [d1, d2, d3] }
  | _ => none }
def FnExactWordLessWrongFalsely : Prop := fnExactWordLessRow.holds Try.pinned (OpenSpec.ofChange fnExactWordLessWrong)

/-- 'laws.FnExactWordSub': WHATEVER THE INPUT: true; the input reads as it did. -/
def fnExactWordSubSpec : ChangeSpec := { name := "fnExactWordSub", fn := fun _ => fun
  | [d1, d2, d3] => { results := [.lit (.bool true)], args := [d1, d2, d3] }
  | _ => none }
def fnExactWordSubRow : OpenClaim := { program := "ytfcijloiebnloaa", sum := "97f70850cca0ac32cdfa6f6e22f86f72479d5a3599317057a5afdea749511078", func := "loop.example/g00979/laws.FnExactWordSub", spec := "fnExactWordSub", apart := false }
def FnExactWordSubSaid : Prop := fnExactWordSubRow.holds Try.pinned (OpenSpec.ofChange fnExactWordSubSpec)

/-- ITS FALSE NEIGHBOUR: 'it returns false'. Refute it at one input. -/
def fnExactWordSubWrong : ChangeSpec := { name := "fnExactWordSub", fn := fun _ => fun
  | [d1, d2, d3] => { results := [.lit (.bool false)], args := [d1, d2, d3] }
  | _ => none }
def FnExactWordSubWrongFalsely : Prop := fnExactWordSubRow.holds Try.pinned (OpenSpec.ofChange fnExactWordSubWrong)

/-- 'laws.FnExactWordMul': WHATEVER THE INPUT: true; the input reads as it did. -/
def fnExactWordMulSpec : ChangeSpec := { name := "fnExactWordMul", fn := fun _ => fun
  | [d1, d2, d3] => { results := [.lit (.bool true)], args := [d1, d2, d3] }
  | _ => none }
def fnExactWordMulRow : OpenClaim := { program := "ytfcijloiebnloaa", sum := "97f70850cca0ac32cdfa6f6e22f86f72479d5a3599317057a5afdea749511078", func := "loop.example/g00979/laws.FnExactWordMul", spec := "fnExactWordMul", apart := false }
def FnExactWordMulSaid : Prop := fnExactWordMulRow.holds Try.pinned (OpenSpec.ofChange fnExactWordMulSpec)

/-- ITS FALSE NEIGHBOUR: 'it returns false'. Refute it at one input. -/
def fnExactWordMulWrong : ChangeSpec := { name := "fnExactWordMul", fn := fun _ => fun
  | [d1, d2, d3] => { results := [.lit (.bool false)], args := [d1, d2, d3] }
  | _ => none }
def FnExactWordMulWrongFalsely : Prop := fnExactWordMulRow.holds Try.pinned (OpenSpec.ofChange fnExactWordMulWrong)

/-- 'laws.FnExactCompile': WHATEVER THE INPUT: true; the input reads as it did. -/
def fnExactCompileSpec : ChangeSpec := { name := "fnExactCompile", fn := fun _ => fun
  | [d] => { results := [.lit (.bool true)], args := [d] }
  | _ => none }
def fnExactCompileRow : OpenClaim := { program := "ytfcijloiebnloaa", sum := "97f70850cca0ac32cdfa6f6e22f86f72479d5a3599317057a5afdea749511078", func := "loop.example/g00979/laws.FnExactCompile", spec := "fnExactCompile", recurses := true, apart := false }
def FnExactCompileSaid : Prop := fnExactCompileRow.holds Try.pinned (OpenSpec.ofChange fnExactCompileSpec)

/-- ITS FALSE NEIGHBOUR: 'it returns false'. Refute it at one input. -/
def fnExactCompileWrong : ChangeSpec := { name := "fnExactCompile", fn := fun _ => fun
  | [d] => { results := [.lit (.bool false)], args := [d] }
  | _ => none }
def FnExactCompileWrongFalsely : Prop := fnExactCompileRow.holds Try.pinned (OpenSpec.ofChange fnExactCompileWrong)

/-- 'laws.FnCompiled': WHATEVER THE INPUT: true; the input reads as it did. -/
def fnCompiledSpec : ChangeSpec := { name := "fnCompiled", fn := fun _ => fun
  | [d] => { results := [.lit (.bool true)], args := [d] }
  | _ => none }
def fnCompiledRow : OpenClaim := { program := "ytfcijloiebnloaa", sum := "97f70850cca0ac32cdfa6f6e22f86f72479d5a3599317057a5afdea749511078", func := "loop.example/g00979/laws.FnCompiled", spec := "fnCompiled", recurses := true, apart := false }
def FnCompiledSaid : Prop := fnCompiledRow.holds Try.pinned (OpenSpec.ofChange fnCompiledSpec)

/-- ITS FALSE NEIGHBOUR: 'it returns false'. Refute it at one input. -/
def fnCompiledWrong : ChangeSpec := { name := "fnCompiled", fn := fun _ => fun
  | [d] => { results := [.lit (.bool false)], args := [d] }
  | _ => none }
def FnCompiledWrongFalsely : Prop := fnCompiledRow.holds Try.pinned (OpenSpec.ofChange fnCompiledWrong)

/- THE SECOND FORM. 'bulk': how many values and letters a reading holds, each counted each time it is reached (what is shared counts as often as it is met; a slice's spare places count too). A statement '..UptoSaid' is the law's where the arguments, and the package variables that the reading takes, are together of bulk at most 1048576: NARROWER than '..Said'. Prove '..Said' where nothing that the law and all that it calls make is longer than what came in: it says more and counts as full. Else prove '..UptoSaid'. A law counts once. -/
mutual
def uptoBulk {H : Type} : DataW H → Nat
  | .lit (.string bytes) => bytes.length + 1
  | .lit _ => 1
  | .nil => 1
  | .ptr d => uptoBulk d + 1
  | .slice elems spare => uptoBulkAll elems + uptoBulkAll spare + 1
  | .agg parts => uptoBulkAll parts + 1
  | .iface _ d => uptoBulk d + 1
  | .map entries => uptoBulkEntries entries + 1
  | .held _ => 1
def uptoBulkAll {H : Type} : List (DataW H) → Nat
  | [] => 0
  | d :: r => uptoBulk d + uptoBulkAll r
def uptoBulkEntries {H : Type} : List (Lit × DataW H) → Nat
  | [] => 0
  | x :: r => uptoBulkEntry x + uptoBulkEntries r
def uptoBulkEntry {H : Type} : Lit × DataW H → Nat
  | (.string bytes, d) => bytes.length + uptoBulk d + 1
  | (_, d) => uptoBulk d + 1
 end
def uptoSmall : (H : Type) → List (DataW H) → Bool := fun _ ds => decide (uptoBulkAll ds ≤ 1048576)
def OpenSpec.upto (s : _root_.Go.ChangeSpec) : _root_.Go.OpenSpec := { _root_.Go.OpenSpec.ofChange s with cond := some uptoSmall }

/-- 'laws.FnExactWordConst', WHERE WHAT IT READS IS OF BULK AT MOST 1048576: true; the input reads as it did. -/
def fnExactWordConstUptoRow : OpenClaim := { program := "ytfcijloiebnloaa", sum := "97f70850cca0ac32cdfa6f6e22f86f72479d5a3599317057a5afdea749511078", func := "loop.example/g00979/laws.FnExactWordConst", spec := "fnExactWordConst", apart := false, narrowed := true }
def FnExactWordConstUptoSaid : Prop := fnExactWordConstUptoRow.holds Try.pinned (OpenSpec.upto fnExactWordConstSpec)

/-- 'laws.FnExactWordMux', WHERE WHAT IT READS IS OF BULK AT MOST 1048576: true; the input reads as it did. -/
def fnExactWordMuxUptoRow : OpenClaim := { program := "ytfcijloiebnloaa", sum := "97f70850cca0ac32cdfa6f6e22f86f72479d5a3599317057a5afdea749511078", func := "loop.example/g00979/laws.FnExactWordMux", spec := "fnExactWordMux", apart := false, narrowed := true }
def FnExactWordMuxUptoSaid : Prop := fnExactWordMuxUptoRow.holds Try.pinned (OpenSpec.upto fnExactWordMuxSpec)

/-- 'laws.FnExactWordEqual', WHERE WHAT IT READS IS OF BULK AT MOST 1048576: true; the input reads as it did. -/
def fnExactWordEqualUptoRow : OpenClaim := { program := "ytfcijloiebnloaa", sum := "97f70850cca0ac32cdfa6f6e22f86f72479d5a3599317057a5afdea749511078", func := "loop.example/g00979/laws.FnExactWordEqual", spec := "fnExactWordEqual", apart := false, narrowed := true }
def FnExactWordEqualUptoSaid : Prop := fnExactWordEqualUptoRow.holds Try.pinned (OpenSpec.upto fnExactWordEqualSpec)

/-- 'laws.FnExactWordAdd', WHERE WHAT IT READS IS OF BULK AT MOST 1048576: true; the input reads as it did. -/
def fnExactWordAddUptoRow : OpenClaim := { program := "ytfcijloiebnloaa", sum := "97f70850cca0ac32cdfa6f6e22f86f72479d5a3599317057a5afdea749511078", func := "loop.example/g00979/laws.FnExactWordAdd", spec := "fnExactWordAdd", apart := false, narrowed := true }
def FnExactWordAddUptoSaid : Prop := fnExactWordAddUptoRow.holds Try.pinned (OpenSpec.upto fnExactWordAddSpec)

/-- 'laws.FnExactWordLess', WHERE WHAT IT READS IS OF BULK AT MOST 1048576: true; the input reads as it did. -/
def fnExactWordLessUptoRow : OpenClaim := { program := "ytfcijloiebnloaa", sum := "97f70850cca0ac32cdfa6f6e22f86f72479d5a3599317057a5afdea749511078", func := "loop.example/g00979/laws.FnExactWordLess", spec := "fnExactWordLess", apart := false, narrowed := true }
def FnExactWordLessUptoSaid : Prop := fnExactWordLessUptoRow.holds Try.pinned (OpenSpec.upto fnExactWordLessSpec)

/-- 'laws.FnExactWordSub', WHERE WHAT IT READS IS OF BULK AT MOST 1048576: true; the input reads as it did. -/
def fnExactWordSubUptoRow : OpenClaim := { program := "ytfcijloiebnloaa", sum := "97f70850cca0ac32cdfa6f6e22f86f72479d5a3599317057a5afdea749511078", func := "loop.example/g00979/laws.FnExactWordSub", spec := "fnExactWordSub", apart := false, narrowed := true }
def FnExactWordSubUptoSaid : Prop := fnExactWordSubUptoRow.holds Try.pinned (OpenSpec.upto fnExactWordSubSpec)

/-- 'laws.FnExactWordMul', WHERE WHAT IT READS IS OF BULK AT MOST 1048576: true; the input reads as it did. -/
def fnExactWordMulUptoRow : OpenClaim := { program := "ytfcijloiebnloaa", sum := "97f70850cca0ac32cdfa6f6e22f86f72479d5a3599317057a5afdea749511078", func := "loop.example/g00979/laws.FnExactWordMul", spec := "fnExactWordMul", apart := false, narrowed := true }
def FnExactWordMulUptoSaid : Prop := fnExactWordMulUptoRow.holds Try.pinned (OpenSpec.upto fnExactWordMulSpec)

/-- 'laws.FnExactCompile', WHERE WHAT IT READS IS OF BULK AT MOST 1048576: true; the input reads as it did. -/
def fnExactCompileUptoRow : OpenClaim := { program := "ytfcijloiebnloaa", sum := "97f70850cca0ac32cdfa6f6e22f86f72479d5a3599317057a5afdea749511078", func := "loop.example/g00979/laws.FnExactCompile", spec := "fnExactCompile", recurses := true, apart := false, narrowed := true }
def FnExactCompileUptoSaid : Prop := fnExactCompileUptoRow.holds Try.pinned (OpenSpec.upto fnExactCompileSpec)

/-- 'laws.FnCompiled', WHERE WHAT IT READS IS OF BULK AT MOST 1048576: true; the input reads as it did. -/
def fnCompiledUptoRow : OpenClaim := { program := "ytfcijloiebnloaa", sum := "97f70850cca0ac32cdfa6f6e22f86f72479d5a3599317057a5afdea749511078", func := "loop.example/g00979/laws.FnCompiled", spec := "fnCompiled", recurses := true, apart := false, narrowed := true }
def FnCompiledUptoSaid : Prop := fnCompiledUptoRow.holds Try.pinned (OpenSpec.upto fnCompiledSpec)

end Rows
end Go.Proofs.Ytfcijloiebnloaa

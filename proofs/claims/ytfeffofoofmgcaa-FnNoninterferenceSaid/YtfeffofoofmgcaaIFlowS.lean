/- The impl's FlowStep. -/
import Derived.Test.YtfeffofoofmgcaaFlow
namespace Go.Proofs.Ytfeffofoofmgcaa
open Go.RowKit
set_option linter.unusedVariables false
set_option linter.unusedSimpArgs false

/-- What stands in memory once the two rows are copied: the argument's box, the statement's, the result's, the new box, the copies. -/
structure FS (w W : World) (V0 V1 : Value) (s : St) (rs os : List Int) (bx g1 d1 g2 d2 : Nat) : Prop where
  v0 : W.cell? ⟨w.heap.size, 0, none⟩ = some V0
  v1 : W.cell? ⟨w.heap.size, 1, none⟩ = some V1
  s0 : W.cell? ⟨w.heap.size + 1, 0, none⟩ = some (.int .i64 s.op)
  s1 : W.cell? ⟨w.heap.size + 1, 1, none⟩ = some (.int .i64 s.dst)
  s2 : W.cell? ⟨w.heap.size + 1, 2, none⟩ = some (.int .i64 s.a)
  s3 : W.cell? ⟨w.heap.size + 1, 3, none⟩ = some (.int .i64 s.b)
  s4 : W.cell? ⟨w.heap.size + 1, 4, none⟩ = some (.int .i64 s.c)
  s5 : W.cell? ⟨w.heap.size + 1, 5, none⟩ = some (.int .i64 s.n)
  r0 : W.cell? ⟨w.heap.size + 1 + 1, 0, none⟩ = some (.slice none 0 0)
  r1 : W.cell? ⟨w.heap.size + 1 + 1, 1, none⟩ = some (.slice none 0 0)
  rf0 : W.frozen? ⟨w.heap.size + 1 + 1, 0, none⟩ = false
  rf1 : W.frozen? ⟨w.heap.size + 1 + 1, 1, none⟩ = false
  b0 : W.cell? ⟨bx, 0, none⟩ = some (.slice (some ⟨g1, 0, none⟩) rs.length d1)
  b1 : W.cell? ⟨bx, 1, none⟩ = some (.slice (some ⟨g2, 0, none⟩) os.length d2)
  bf0 : W.frozen? ⟨bx, 0, none⟩ = false
  bf1 : W.frozen? ⟨bx, 1, none⟩ = false
  o1 : Own W (w.heap.size + 3) 3 1 (some ⟨g1, 0, none⟩) rs.length d1 (I64 rs)
  o2 : Own W (w.heap.size + 3) 3 1 (some ⟨g2, 0, none⟩) os.length d2 (I64 os)
  ne : g1 < g2
  n1 : bx ≠ g1
  n2 : bx ≠ g2
  lb : w.heap.size + 3 ≤ bx
  lb' : bx < W.heap.size
  bel : Below w.heap.size w W

end Go.Proofs.Ytfeffofoofmgcaa

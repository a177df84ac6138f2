/- Contracts of Operate. -/
import Derived.Test.YtigefmobejclaaaDoorScal
namespace Go.Proofs.YtigefmobejclaaaDoor
open Go.RowKit

def operF (op a b : Int) : Int :=
  if op = 3 then (a + b) % 16 else if op = 4 then (a - b) % 16 else if op = 5 then a * b % 16 else if op = 6 then bits BinOp.and IntKind.i64 a b
  else if op = 7 then bits BinOp.xor IntKind.i64 a b else if op = 8 then (if a < b then 1 else 0) else if op = 9 then (if a = b then 1 else 0) else -1
def operateF (op a b : Int) : Int := if inB a 0 15 && inB b 0 15 then operF op a b else -1

theorem allB2' (a b lo hi : Int) : allB [a, b] lo hi = (inB a lo hi && inB b lo hi) := by simp [allB]

theorem mul_le_225 {a b : Int} (h1 : 0 ≤ a) (h2 : a ≤ 15) (h3 : 0 ≤ b) (h4 : b ≤ 15) : 0 ≤ a * b ∧ a * b ≤ 225 :=
  ⟨Int.mul_nonneg h1 h3, Int.le_trans (Int.mul_le_mul h2 h4 h3 (by omega)) (by omega)⟩

end Go.Proofs.YtigefmobejclaaaDoor

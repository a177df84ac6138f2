/- Contracts of Operate. -/
import Derived.Test.YtfcijloiebnloaaScal
namespace Go.Proofs.Ytfcijloiebnloaa
open Go.RowKit

def operF (op a b : Int) : Int :=
  if op = 3 then (a + b) % 16 else if op = 4 then (a - b) % 16 else if op = 5 then a * b % 16 else if op = 6 then bits BinOp.and IntKind.i64 a b
  else if op = 7 then bits BinOp.xor IntKind.i64 a b else if op = 8 then (if a < b then 1 else 0) else if op = 9 then (if a = b then 1 else 0) else -1
def operateF (op a b : Int) : Int := if inB a 0 15 && inB b 0 15 then operF op a b else -1

theorem allB2' (a b lo hi : Int) : allB [a, b] lo hi = (inB a lo hi && inB b lo hi) := by simp [allB]

set_option maxHeartbeats 400000 in
theorem l12If_any (b : Bool) (w : World) :
    Calls Try.prog 124 #[.bool b] w fun e w' => e = .returned (.int .i64 (if b then 1 else 0)) ∧ w = w' := by
  cases b
  all_goals
    go_enter Try.func124, Try.ntmps124
    go_wp2
    go_ret
    exact ⟨rfl, rfl⟩
theorem mul_le_225 {a b : Int} (h1 : 0 ≤ a) (h2 : a ≤ 15) (h3 : 0 ≤ b) (h4 : b ≤ 15) : 0 ≤ a * b ∧ a * b ≤ 225 :=
  ⟨Int.mul_nonneg h1 h3, Int.le_trans (Int.mul_le_mul h2 h4 h3 (by omega)) (by omega)⟩

set_option maxHeartbeats 1000000 in
theorem sOperate_any (op a b : Int) (w : World) :
    Calls Try.prog 113 #[.int .i64 op, .int .i64 a, .int .i64 b] w fun e w' => e = .returned (.int .i64 (operateF op a b)) ∧ w = w' := by
  cases ha : inB a 0 15 <;> cases hb : inB b 0 15
  case true.true =>
    have h1 := inB_iff.1 ha
    have h2 := inB_iff.1 hb
    obtain ⟨a0, a1⟩ := h1
    obtain ⟨b0, b1⟩ := h2
    obtain ⟨m0, m1⟩ := mul_le_225 a0 a1 b0 b1
    go_enter Try.func113, Try.ntmps113
    go_wp2_with (first | (go_at_call 53; refine (l01In_any _ _ _ _).mono ?_; rintro e w' ⟨rfl, rfl⟩) | (go_at_call 124; refine (l12If_any _ _).mono ?_; rintro e w' ⟨rfl, rfl⟩))
    all_goals go_ret
    all_goals go_light
    all_goals refine ⟨ret_int ?_, rfl⟩
    all_goals (simp only [operateF, ha, hb, Bool.and_self, if_true])
    all_goals first | (simp_all [operF, i64_and_mask4]; done) | (simp_all [operF, i64_and_mask4]; omega)
  all_goals
    go_enter Try.func113, Try.ntmps113
    go_wp2_with (go_at_call 53; refine (l01In_any _ _ _ _).mono ?_; rintro e w' ⟨rfl, rfl⟩)
    go_ret
    exact ⟨ret_int (by simp [operateF, ha, hb]), rfl⟩
end Go.Proofs.Ytfcijloiebnloaa

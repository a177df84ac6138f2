/- Contracts of GateOk. -/
import Derived.Test.YtfcijloiebnloaaScal
namespace Go.Proofs.Ytfcijloiebnloaa
open Go.RowKit

def gateOk (kind a b at' : Int) : Bool :=
  if kind = 1 then inB a 0 79 && (b == 0) else if kind = 2 then inB a 0 1 && (b == 0)
  else if kind = 3 ∨ kind = 4 then (decide (0 ≤ a) && decide (a < at')) && (decide (0 ≤ b) && decide (b < at'))
  else if kind = 5 then (decide (0 ≤ a) && decide (a < at')) && (b == 0) else false

set_option maxHeartbeats 400000 in
theorem toGate_any (k a b : Int) (w : World) :
    Calls Try.prog 95 #[.agg #[.int .i64 k, .int .i64 a, .int .i64 b]] w fun e w' => e = .returned (.agg #[.int .i64 k, .int .i64 a, .int .i64 b]) ∧ Below w.heap.size w w' := by
  go_enter Try.func95, Try.ntmps95
  go_wp2
  exact bodyPost_ret (v := .agg #[.int .i64 k, .int .i64 a, .int .i64 b]) (by simp [results, Try.results95, go_sem]) rfl ⟨rfl, by (repeat (first | exact Below.refl _ _ | (refine bel_next ?_ ?_ (by assumption)) | (refine Below.alloc ?_ ?_ _) | (refine Below.drew ?_) | (refine Below.setCell ?_ ?_ _))) <;> (first | omega | (simp; done) | (simp; omega))⟩
set_option maxHeartbeats 1000000 in
theorem sGateOk_any (k a b t : Int) (w : World) :
    Calls Try.prog 93 #[.agg #[.int .i64 k, .int .i64 a, .int .i64 b], .int .i64 t] w fun e w' => e = .returned (.bool (gateOk k a b t)) ∧ Below w.heap.size w w' := by
  go_enter Try.func93, Try.ntmps93
  go_wp2_with (go_at_call 53; refine (l01In_any _ _ _ _).mono ?_; rintro e w' ⟨rfl, rfl⟩)
  all_goals go_ret
  all_goals go_light
  all_goals refine ⟨ret_bool ?_, by (repeat (first | exact Below.refl _ _ | (refine bel_next ?_ ?_ (by assumption)) | (refine Below.alloc ?_ ?_ _) | (refine Below.drew ?_) | (refine Below.setCell ?_ ?_ _))) <;> (first | omega | (simp; done) | (simp; omega))⟩
  all_goals first | (simp_all [gateOk]; done) | (simp_all [gateOk]; omega)
set_option maxHeartbeats 1000000 in
theorem iGateOk_any (k a b t : Int) (w : World) :
    Calls Try.prog 92 #[.agg #[.int .i64 k, .int .i64 a, .int .i64 b], .int .i64 t] w fun e w' => e = .returned (.bool (gateOk k a b t)) ∧ Below w.heap.size w w' := by
  go_enter Try.func92, Try.ntmps92
  go_wp2_with (go_at_call 65; refine (within_any _ _ _ _).mono ?_; rintro e w' ⟨rfl, rfl⟩)
  all_goals go_ret
  all_goals go_light
  all_goals refine ⟨ret_bool ?_, by (repeat (first | exact Below.refl _ _ | (refine bel_next ?_ ?_ (by assumption)) | (refine Below.alloc ?_ ?_ _) | (refine Below.drew ?_) | (refine Below.setCell ?_ ?_ _))) <;> (first | omega | (simp; done) | (simp; omega))⟩
  all_goals first | (simp_all [gateOk]; done) | (simp_all [gateOk]; omega)
end Go.Proofs.Ytfcijloiebnloaa

/- The walks of the laws on labels, gates and operations. -/
import Derived.Test.YtjibbkigjcncdaaLab
import Derived.Test.YtjibbkigjcncdaaWord
import Derived.Test.YtjibbkigjcncdaaOper
import Derived.Test.YtjibbkigjcncdaaGate
namespace Go.Proofs.Ytjibbkigjcncdaa
open Go.RowKit

set_option maxHeartbeats 400000 in
theorem walk_FnExactIsLabel (a : Int) (w : World) : Calls Try.prog 3 #[.int .i64 a] w fun e w' => e = .returned (.bool true) ∧ Below w.heap.size w w' := by
  go_enter Try.func3, Try.ntmps3
  go_wp2_with (first | (go_at_call 11; refine (sIsLabel_any _ _).mono ?_; rintro e w' ⟨rfl, rfl⟩) | (go_at_call 12; refine (iIsLabel_any _ _).mono ?_; rintro e w' ⟨rfl, rfl⟩))
  go_ret
  exact ⟨rfl, Below.refl _ _⟩

set_option maxHeartbeats 400000 in
theorem walk_FnExactHashLabel (a b : Int) (w : World) : Calls Try.prog 7 #[.int .i64 a, .int .i64 b] w fun e w' => e = .returned (.bool true) ∧ Below w.heap.size w w' := by
  go_enter Try.func7, Try.ntmps7
  go_wp2_with (first | (go_at_call 20; refine (sHashLabel_any _ _ _).mono ?_; rintro e w' ⟨rfl, rfl⟩) | (go_at_call 21; refine (iHashLabel_any _ _ _).mono ?_; rintro e w' ⟨rfl, rfl⟩))
  go_ret
  exact ⟨rfl, Below.refl _ _⟩

set_option maxHeartbeats 400000 in
theorem walk_FnExactLabelFor (a b c : Int) (w : World) : Calls Try.prog 4 #[.int .i64 a, .int .i64 b, .int .i64 c] w fun e w' => e = .returned (.bool true) ∧ Below w.heap.size w w' := by
  go_enter Try.func4, Try.ntmps4
  go_wp2_with (first | (go_at_call 13; refine (sLabelFor_any _ _ _ _).mono ?_; rintro e w' ⟨rfl, rfl⟩) | (go_at_call 14; refine (iLabelFor_any _ _ _ _).mono ?_; rintro e w' ⟨rfl, hg⟩))
  go_ret
  exact ⟨rfl, hg⟩

set_option maxHeartbeats 400000 in
theorem walk_FnExactValueOf (a b c : Int) (w : World) : Calls Try.prog 6 #[.int .i64 a, .int .i64 b, .int .i64 c] w fun e w' => e = .returned (.bool true) ∧ Below w.heap.size w w' := by
  go_enter Try.func6, Try.ntmps6
  go_wp2_with (first | (go_at_call 18; refine (sValueOf_any _ _ _ _).mono ?_; rintro e w' ⟨rfl, rfl⟩) | (go_at_call 19; refine (iValueOf_any _ _ _ _).mono ?_; rintro e w' ⟨rfl, hg⟩))
  go_ret
  exact ⟨rfl, hg⟩

set_option maxHeartbeats 400000 in
theorem walk_FnExactOperate (a b c : Int) (w : World) : Calls Try.prog 10 #[.int .i64 a, .int .i64 b, .int .i64 c] w fun e w' => e = .returned (.bool true) ∧ Below w.heap.size w w' := by
  go_enter Try.func10, Try.ntmps10
  go_wp2_with (first | (go_at_call 32; refine (sOperate_any _ _ _ _).mono ?_; rintro e w' ⟨rfl, rfl⟩) | (go_at_call 33; refine (iOperate_any _ _ _ _).mono ?_; rintro e w' ⟨rfl, hg⟩))
  go_ret
  exact ⟨rfl, hg⟩

set_option maxHeartbeats 400000 in
theorem walk_FnExactGateOk (k a b t : Int) (w : World) : Calls Try.prog 5 #[.agg #[.int .i64 k, .int .i64 a, .int .i64 b], .int .i64 t] w fun e w' => e = .returned (.bool true) ∧ Below w.heap.size w w' := by
  go_enter Try.func5, Try.ntmps5
  go_wp2_with (first | (go_at_call 16; refine (toGate_any _ _ _ _).mono ?_; rintro e w' ⟨rfl, hg⟩; have z := hg.size; (try simp at z); have k0 := bel_keeps hg (b := w.heap.size) (o := 0) (v := .int .i64 k) (by go_simp); have k1 := bel_keeps hg (b := w.heap.size) (o := 1) (v := .int .i64 a) (by go_simp); have k2 := bel_keeps hg (b := w.heap.size) (o := 2) (v := .int .i64 b) (by go_simp)) | (go_at_call 15; refine (sGateOk_any _ _ _ _ _).mono ?_; rintro e w' ⟨rfl, hg⟩; have z := hg.size; (try simp at z); have k0 := bel_keeps hg (b := w.heap.size) (o := 0) (v := .int .i64 k) (by go_simp); have k1 := bel_keeps hg (b := w.heap.size) (o := 1) (v := .int .i64 a) (by go_simp); have k2 := bel_keeps hg (b := w.heap.size) (o := 2) (v := .int .i64 b) (by go_simp)) | (go_at_call 17; refine (iGateOk_any _ _ _ _ _).mono ?_; rintro e w' ⟨rfl, hg⟩))
  go_ret
  go_light
  exact ⟨rfl, by (repeat (first | exact Below.refl _ _ | (refine bel_next ?_ ?_ (by assumption)) | (refine Below.alloc ?_ ?_ _) | (refine Below.drew ?_) | (refine Below.setCell ?_ ?_ _))) <;> (first | omega | (simp; done) | (simp; omega))⟩
end Go.Proofs.Ytjibbkigjcncdaa

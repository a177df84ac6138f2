/- Contracts of the functions that mix words. -/
import Derived.Test.YtnipfbgmafknfaaScal
namespace Go.Proofs.Ytnipfbgmafknfaa
open Go.RowKit

def mixStep (x : Int) : Int := bits BinOp.and IntKind.i64 (wrap64 (bits BinOp.xor IntKind.i64 x (x / 65536) * 73244475)) 4294967295
def mixF (x : Int) : Int := if inB x 0 4294967295 then bits BinOp.xor IntKind.i64 (mixStep (mixStep x)) (mixStep (mixStep x) / 65536) else 0

theorem mixStep_range (x : Int) : 0 ≤ mixStep x ∧ mixStep x ≤ 4294967295 := by unfold mixStep; rw [i64_and_mask32]; omega
theorem mixF_range (x : Int) : 0 ≤ mixF x ∧ mixF x ≤ 4294967295 := by
  unfold mixF
  split
  · have h := mixStep_range (mixStep x)
    have := i64_xor_range 32 (by omega) h.1 (show mixStep (mixStep x) < 2 ^ 32 by omega) (show 0 ≤ mixStep (mixStep x) / 65536 by omega) (by omega)
    omega
  · omega

def keyedF (k a b : Int) : Int :=
  if inB k 0 4294967295 && inB a 0 4294967295 && inB b 0 4294967295 then mixF (bits BinOp.xor IntKind.i64 (mixF (bits BinOp.xor IntKind.i64 (mixF k) a)) b) else 0
theorem keyedF_range (k a b : Int) : 0 ≤ keyedF k a b ∧ keyedF k a b ≤ 4294967295 := by
  unfold keyedF; split
  · exact mixF_range _
  · omega

set_option maxHeartbeats 400000 in
theorem sMix_any (a : Int) (w : World) :
    Calls Try.prog 73 #[.int .i64 a] w fun e w' => e = .returned (.int .i64 (mixF a)) ∧ w = w' := by
  cases ha : inB a 0 4294967295
  · go_enter Try.func73, Try.ntmps73
    go_wp2_with (go_at_call 70; refine (sIsWord_any _ _).mono ?_; rintro e w' ⟨rfl, rfl⟩)
    go_ret
    exact ⟨ret_int (by simp [mixF, ha]), rfl⟩
  · have h := inB_iff.1 ha
    obtain ⟨h0, h1⟩ := h
    go_enter Try.func73, Try.ntmps73
    go_wp2_with (go_at_call 70; refine (sIsWord_any _ _).mono ?_; rintro e w' ⟨rfl, rfl⟩)
    refine wp_loop_rounds 3 ?_; rw [rounds_succ]
    go_wp2
    rw [rounds_succ]
    go_wp2
    rw [rounds_succ]
    go_wp2
    go_ret
    go_light
    exact ⟨ret_int (by simp [mixF, ha, mixStep]), rfl⟩
set_option maxHeartbeats 400000 in
theorem sKeyed_any (k a b : Int) (w : World) :
    Calls Try.prog 71 #[.int .i64 k, .int .i64 a, .int .i64 b] w fun e w' => e = .returned (.int .i64 (keyedF k a b)) ∧ w = w' := by
  go_enter Try.func71, Try.ntmps71
  go_wp2_with (first | (go_at_call 70; refine (sIsWord_any _ _).mono ?_; rintro e w' ⟨rfl, rfl⟩) | (go_at_call 73; refine (sMix_any _ _).mono ?_; rintro e w' ⟨rfl, rfl⟩))
  all_goals go_ret
  all_goals go_light
  all_goals refine ⟨ret_int ?_, rfl⟩
  all_goals simp_all [keyedF]
set_option maxHeartbeats 400000 in
theorem iMix_any (a : Int) (w : World) :
    Calls Try.prog 68 #[.int .i64 a] w fun e w' => e = .returned (.int .i64 (mixF a)) ∧ w = w' := by
  cases ha : inB a 0 4294967295
  · go_enter Try.func68, Try.ntmps68
    go_wp2_with (go_at_call 66; refine (iIsWord_any _ _).mono ?_; rintro e w' ⟨rfl, rfl⟩)
    go_ret
    exact ⟨ret_int (by simp [mixF, ha]), rfl⟩
  · have h := inB_iff.1 ha
    obtain ⟨h0, h1⟩ := h
    go_enter Try.func68, Try.ntmps68
    go_wp2_with (go_at_call 66; refine (iIsWord_any _ _).mono ?_; rintro e w' ⟨rfl, rfl⟩)
    refine wp_loop_rounds 3 ?_; rw [rounds_succ]
    go_wp2
    rw [rounds_succ]
    go_wp2
    rw [rounds_succ]
    go_wp2
    go_ret
    go_light
    exact ⟨ret_int (by simp [mixF, ha, mixStep]), rfl⟩
set_option maxHeartbeats 400000 in
theorem iKeyed_any (k a b : Int) (w : World) :
    Calls Try.prog 53 #[.int .i64 k, .int .i64 a, .int .i64 b] w fun e w' => e = .returned (.int .i64 (keyedF k a b)) ∧ w = w' := by
  go_enter Try.func53, Try.ntmps53
  go_wp2_with (first | (go_at_call 66; refine (iIsWord_any _ _).mono ?_; rintro e w' ⟨rfl, rfl⟩) | (go_at_call 68; refine (iMix_any _ _).mono ?_; rintro e w' ⟨rfl, rfl⟩))
  all_goals go_ret
  all_goals go_light
  all_goals refine ⟨ret_int ?_, rfl⟩
  all_goals simp_all [keyedF]
def hashLabel (x n : Int) : Int := if inB x 0 65535 && inB n 0 1000000 then keyedF 77 n x % 65536 else -1

set_option maxHeartbeats 400000 in
theorem iHashLabel_any (x n : Int) (w : World) :
    Calls Try.prog 19 #[.int .i64 x, .int .i64 n] w fun e w' => e = .returned (.int .i64 (hashLabel x n)) ∧ w = w' := by
  have hr := keyedF_range 77 n x
  obtain ⟨h0, h1⟩ := hr
  go_enter Try.func19, Try.ntmps19
  go_wp2_with (first | (go_at_call 17; refine (iIsLabel_any _ _).mono ?_; rintro e w' ⟨rfl, rfl⟩) | (go_at_call 52; refine (within_any _ _ _ _).mono ?_; rintro e w' ⟨rfl, rfl⟩) | (go_at_call 53; refine (iKeyed_any _ _ _ _).mono ?_; rintro e w' ⟨rfl, rfl⟩))
  all_goals go_ret
  all_goals go_light
  all_goals refine ⟨ret_int ?_, rfl⟩
  all_goals simp_all [hashLabel]
end Go.Proofs.Ytnipfbgmafknfaa

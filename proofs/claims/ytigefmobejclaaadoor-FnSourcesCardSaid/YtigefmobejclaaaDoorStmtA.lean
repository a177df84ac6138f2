/- StmtOk at const, input, loop. -/
import Derived.Test.YtigefmobejclaaaDoorStmt
namespace Go.Proofs.YtigefmobejclaaaDoor
open Go.RowKit
set_option linter.unusedSimpArgs false

set_option maxHeartbeats 2000000 in
theorem iStmtOk_const (dst a b c n : Int) (w : World) :
    Calls Tryd.prog 31 #[stV ⟨1, dst, a, b, c, n⟩] w fun e w' => e = .returned (.bool (stOk ⟨1, dst, a, b, c, n⟩)) ∧ Below w.heap.size w w' := by
  have HS : ∀ v, v = stOk ⟨1, dst, a, b, c, n⟩ → Hid (stOk ⟨1, dst, a, b, c, n⟩ = v) := fun v h => h.symm
  by_cases hz : a = 0 ∧ b = 0 ∧ c = 0
  · obtain ⟨rfl, rfl, rfl⟩ := hz
    have HV : Hid (stOk ⟨1, dst, 0, 0, 0, n⟩ = (allB [dst] 0 7 && inB n 0 15)) := by show _ = _; simp [stOk, allB1, Bool.and_assoc]; try (cases inB dst 0 7 <;> rfl)
    cases t0 : allB [dst] 0 7 <;> cases t1 : inB n 0 15
    all_goals
      unfold stV
      go_enter Tryd.func31, Tryd.ntmps31
      go_wp2_with (first | (go_at_call 50; refine (within_any _ _ _ _).mono ?_; rintro e w' ⟨rfl, rfl⟩; simp only [t0, t1]) | (go_at_call 49; refine (isRegL [dst] _ _ 1 _ rfl (by decide) (rd1 _ dst (by simp))).mono ?_; rintro e w' ⟨rfl, rfl⟩; rw [t0]))
      all_goals go_ret
      all_goals exact ⟨ret_bool (by simp [HV.out, t0, t1]), (by first | exact (Below.refl _ _).alloc (Nat.le_refl _) _ | exact ((Below.refl _ _).alloc (Nat.le_refl _) _).alloc (by simp) _)⟩
  · unfold stV
    go_enter Tryd.func31, Tryd.ntmps31
    go_wp2_with fail
    all_goals go_ret
    all_goals exact ⟨ret_bool (by simp [stOk, *]), (by first | exact (Below.refl _ _).alloc (Nat.le_refl _) _ | exact ((Below.refl _ _).alloc (Nat.le_refl _) _).alloc (by simp) _)⟩
set_option maxHeartbeats 2000000 in
theorem iStmtOk_input (dst a b c n : Int) (w : World) :
    Calls Tryd.prog 31 #[stV ⟨2, dst, a, b, c, n⟩] w fun e w' => e = .returned (.bool (stOk ⟨2, dst, a, b, c, n⟩)) ∧ Below w.heap.size w w' := by
  have HS : ∀ v, v = stOk ⟨2, dst, a, b, c, n⟩ → Hid (stOk ⟨2, dst, a, b, c, n⟩ = v) := fun v h => h.symm
  by_cases hz : b = 0 ∧ c = 0
  · obtain ⟨rfl, rfl⟩ := hz
    have HV : Hid (stOk ⟨2, dst, a, 0, 0, n⟩ = (allB [dst] 0 7 && inB a 0 4 && inB n 0 3)) := by show _ = _; simp [stOk, allB1, Bool.and_assoc]; try (cases inB dst 0 7 <;> rfl)
    cases t0 : allB [dst] 0 7 <;> cases t1 : inB a 0 4 <;> cases t2 : inB n 0 3
    all_goals
      unfold stV
      go_enter Tryd.func31, Tryd.ntmps31
      go_wp2_with (first | (go_at_call 50; refine (within_any _ _ _ _).mono ?_; rintro e w' ⟨rfl, rfl⟩; simp only [t0, t1, t2]) | (go_at_call 49; refine (isRegL [dst] _ _ 1 _ rfl (by decide) (rd1 _ dst (by simp))).mono ?_; rintro e w' ⟨rfl, rfl⟩; rw [t0]))
      all_goals go_ret
      all_goals exact ⟨ret_bool (by simp [HV.out, t0, t1, t2]), (by first | exact (Below.refl _ _).alloc (Nat.le_refl _) _ | exact ((Below.refl _ _).alloc (Nat.le_refl _) _).alloc (by simp) _)⟩
  · unfold stV
    go_enter Tryd.func31, Tryd.ntmps31
    go_wp2_with fail
    all_goals go_ret
    all_goals exact ⟨ret_bool (by simp [stOk, *]), (by first | exact (Below.refl _ _).alloc (Nat.le_refl _) _ | exact ((Below.refl _ _).alloc (Nat.le_refl _) _).alloc (by simp) _)⟩
set_option maxHeartbeats 2000000 in
theorem iStmtOk_loop (dst a b c n : Int) (w : World) :
    Calls Tryd.prog 31 #[stV ⟨12, dst, a, b, c, n⟩] w fun e w' => e = .returned (.bool (stOk ⟨12, dst, a, b, c, n⟩)) ∧ Below w.heap.size w w' := by
  have HS : ∀ v, v = stOk ⟨12, dst, a, b, c, n⟩ → Hid (stOk ⟨12, dst, a, b, c, n⟩ = v) := fun v h => h.symm
  have HB : Hid (inB 12 3 9 = false) := (by decide : inB 12 3 9 = false)
  by_cases hz : dst = 0 ∧ a = 0 ∧ b = 0 ∧ c = 0
  · obtain ⟨rfl, rfl, rfl, rfl⟩ := hz
    have HV : Hid (stOk ⟨12, 0, 0, 0, 0, n⟩ = (inB n 1 8)) := by show _ = _; simp [stOk, HB.out, Bool.and_assoc]; try (cases inB dst 0 7 <;> rfl)
    cases t0 : inB n 1 8
    all_goals
      unfold stV
      go_enter Tryd.func31, Tryd.ntmps31
      go_wp2_with (first | (go_at_call 50; refine (within_any _ _ _ _).mono ?_; rintro e w' ⟨rfl, rfl⟩; simp only [t0]) | (go_at_call 32; refine (isBinary_any _ _).mono ?_; rintro e w' ⟨rfl, rfl⟩; rw [HB.out]))
      all_goals go_ret
      all_goals exact ⟨ret_bool (by simp [HV.out, t0]), (by first | exact (Below.refl _ _).alloc (Nat.le_refl _) _ | exact ((Below.refl _ _).alloc (Nat.le_refl _) _).alloc (by simp) _)⟩
  · unfold stV
    go_enter Tryd.func31, Tryd.ntmps31
    go_wp2_with (go_at_call 32; refine (isBinary_any _ _).mono ?_; rintro e w' ⟨rfl, rfl⟩; rw [HB.out])
    all_goals go_ret
    all_goals exact ⟨ret_bool (by simp [stOk, HB.out, *]), (by first | exact (Below.refl _ _).alloc (Nat.le_refl _) _ | exact ((Below.refl _ _).alloc (Nat.le_refl _) _).alloc (by simp) _)⟩
end Go.Proofs.YtigefmobejclaaaDoor

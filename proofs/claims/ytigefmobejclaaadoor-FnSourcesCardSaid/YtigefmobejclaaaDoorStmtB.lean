/- StmtOk at mux, out. -/
import Derived.Test.YtigefmobejclaaaDoorStmt
namespace Go.Proofs.YtigefmobejclaaaDoor
open Go.RowKit
set_option linter.unusedSimpArgs false

set_option maxHeartbeats 2000000 in
theorem iStmtOk_mux (dst a b c n : Int) (w : World) :
    Calls Tryd.prog 31 #[stV ⟨10, dst, a, b, c, n⟩] w fun e w' => e = .returned (.bool (stOk ⟨10, dst, a, b, c, n⟩)) ∧ Below w.heap.size w w' := by
  have HS : ∀ v, v = stOk ⟨10, dst, a, b, c, n⟩ → Hid (stOk ⟨10, dst, a, b, c, n⟩ = v) := fun v h => h.symm
  have HB : Hid (inB 10 3 9 = false) := (by decide : inB 10 3 9 = false)
  by_cases hz : n = 0
  · subst hz
    have HV : Hid (stOk ⟨10, dst, a, b, c, 0⟩ = (allB [dst, a, b, c] 0 7)) := by show _ = _; simp [stOk, allB4, HB.out, Bool.and_assoc]; try (cases inB dst 0 7 <;> rfl)
    cases t0 : allB [dst, a, b, c] 0 7
    all_goals
      unfold stV
      go_enter Tryd.func31, Tryd.ntmps31
      go_wp2_with (first | (go_at_call 50; refine (within_any _ _ _ _).mono ?_; rintro e w' ⟨rfl, rfl⟩; simp only [t0]) | (go_at_call 49; refine (isRegL [dst, a, b, c] _ _ 4 _ rfl (by decide) (rd4 _ dst a b c (by simp))).mono ?_; rintro e w' ⟨rfl, rfl⟩; rw [t0]) | (go_at_call 32; refine (isBinary_any _ _).mono ?_; rintro e w' ⟨rfl, rfl⟩; rw [HB.out]))
      all_goals go_ret
      all_goals exact ⟨ret_bool (by simp [HV.out, t0]), (by first | exact (Below.refl _ _).alloc (Nat.le_refl _) _ | exact ((Below.refl _ _).alloc (Nat.le_refl _) _).alloc (by simp) _)⟩
  · unfold stV
    go_enter Tryd.func31, Tryd.ntmps31
    go_wp2_with (go_at_call 32; refine (isBinary_any _ _).mono ?_; rintro e w' ⟨rfl, rfl⟩; rw [HB.out])
    all_goals go_ret
    all_goals exact ⟨ret_bool (by simp [stOk, HB.out, *]), (by first | exact (Below.refl _ _).alloc (Nat.le_refl _) _ | exact ((Below.refl _ _).alloc (Nat.le_refl _) _).alloc (by simp) _)⟩
set_option maxHeartbeats 2000000 in
theorem iStmtOk_out (dst a b c n : Int) (w : World) :
    Calls Tryd.prog 31 #[stV ⟨11, dst, a, b, c, n⟩] w fun e w' => e = .returned (.bool (stOk ⟨11, dst, a, b, c, n⟩)) ∧ Below w.heap.size w w' := by
  have HS : ∀ v, v = stOk ⟨11, dst, a, b, c, n⟩ → Hid (stOk ⟨11, dst, a, b, c, n⟩ = v) := fun v h => h.symm
  have HB : Hid (inB 11 3 9 = false) := (by decide : inB 11 3 9 = false)
  by_cases hz : dst = 0 ∧ b = 0 ∧ c = 0 ∧ n = 0
  · obtain ⟨rfl, rfl, rfl, rfl⟩ := hz
    have HV : Hid (stOk ⟨11, 0, a, 0, 0, 0⟩ = (allB [a] 0 7)) := by show _ = _; simp [stOk, allB1, HB.out, Bool.and_assoc]; try (cases inB dst 0 7 <;> rfl)
    cases t0 : allB [a] 0 7
    all_goals
      unfold stV
      go_enter Tryd.func31, Tryd.ntmps31
      go_wp2_with (first | (go_at_call 50; refine (within_any _ _ _ _).mono ?_; rintro e w' ⟨rfl, rfl⟩; simp only [t0]) | (go_at_call 49; refine (isRegL [a] _ _ 1 _ rfl (by decide) (rd1 _ a (by simp))).mono ?_; rintro e w' ⟨rfl, rfl⟩; rw [t0]) | (go_at_call 32; refine (isBinary_any _ _).mono ?_; rintro e w' ⟨rfl, rfl⟩; rw [HB.out]))
      all_goals go_ret
      all_goals exact ⟨ret_bool (by simp [HV.out, t0]), (by first | exact (Below.refl _ _).alloc (Nat.le_refl _) _ | exact ((Below.refl _ _).alloc (Nat.le_refl _) _).alloc (by simp) _)⟩
  · unfold stV
    go_enter Tryd.func31, Tryd.ntmps31
    go_wp2_with (go_at_call 32; refine (isBinary_any _ _).mono ?_; rintro e w' ⟨rfl, rfl⟩; rw [HB.out])
    all_goals go_ret
    all_goals exact ⟨ret_bool (by simp [stOk, HB.out, *]), (by first | exact (Below.refl _ _).alloc (Nat.le_refl _) _ | exact ((Below.refl _ _).alloc (Nat.le_refl _) _).alloc (by simp) _)⟩
end Go.Proofs.YtigefmobejclaaaDoor

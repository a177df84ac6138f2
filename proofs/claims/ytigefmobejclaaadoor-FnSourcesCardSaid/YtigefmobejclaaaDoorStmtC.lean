/- StmtOk at the binary operations, at what else there is; all together. -/
import Derived.Test.YtigefmobejclaaaDoorStmtA
import Derived.Test.YtigefmobejclaaaDoorStmtB
namespace Go.Proofs.YtigefmobejclaaaDoor
open Go.RowKit
set_option linter.unusedSimpArgs false

set_option maxHeartbeats 2000000 in
theorem iStmtOk_bin (op dst a b c n : Int) (hop : inB op 3 9 = true) (w : World) :
    Calls Tryd.prog 31 #[stV ⟨op, dst, a, b, c, n⟩] w fun e w' => e = .returned (.bool (stOk ⟨op, dst, a, b, c, n⟩)) ∧ Below w.heap.size w w' := by
  have hh := inB_iff.1 hop
  have q1 : (op == 1) = false := by simp; omega
  have q2 : (op == 2) = false := by simp; omega
  have p1 : ¬ op = 1 := by omega
  have p2 : ¬ op = 2 := by omega
  have HB := Lib.hid hop
  clear hop hh
  by_cases hz : c = 0 ∧ n = 0
  · obtain ⟨rfl, rfl⟩ := hz
    have HV : Hid (stOk ⟨op, dst, a, b, 0, 0⟩ = (allB [dst, a, b] 0 7)) := by show _ = _; simp [stOk, allB3, HB.out, p1, p2, Bool.and_assoc]
    clear p1 p2
    cases t0 : allB [dst, a, b] 0 7
    all_goals
      unfold stV
      go_enter Tryd.func31, Tryd.ntmps31
      go_wp2_with (first | (go_at_call 49; refine (isRegL [dst, a, b] _ _ 3 _ rfl (by decide) (rd3 _ dst a b (by simp))).mono ?_; rintro e w' ⟨rfl, rfl⟩; rw [t0]) | (go_at_call 32; refine (isBinary_any _ _).mono ?_; rintro e w' ⟨rfl, rfl⟩; rw [HB.out]))
      all_goals go_ret
      all_goals exact ⟨ret_bool (by simp [HV.out, t0]), (by first | exact (Below.refl _ _).alloc (Nat.le_refl _) _ | exact ((Below.refl _ _).alloc (Nat.le_refl _) _).alloc (by simp) _)⟩
  · have HV : Hid (stOk ⟨op, dst, a, b, c, n⟩ = false) := by show _ = _; simp [stOk, HB.out, p1, p2]; intro h0 h1; exact absurd ⟨h0, h1⟩ hz
    clear p1 p2
    unfold stV
    go_enter Tryd.func31, Tryd.ntmps31
    go_wp2_with (go_at_call 32; refine (isBinary_any _ _).mono ?_; rintro e w' ⟨rfl, rfl⟩; rw [HB.out])
    all_goals go_ret
    all_goals exact ⟨ret_bool (by rw [HV.out]; try simp [*]), (by first | exact (Below.refl _ _).alloc (Nat.le_refl _) _ | exact ((Below.refl _ _).alloc (Nat.le_refl _) _).alloc (by simp) _)⟩
set_option maxHeartbeats 2000000 in
theorem iStmtOk_else (op dst a b c n : Int) (hop : inB op 3 9 = false) (p1 : ¬ op = 1) (p2 : ¬ op = 2) (p10 : ¬ op = 10) (p11 : ¬ op = 11) (p12 : ¬ op = 12) (w : World) :
    Calls Tryd.prog 31 #[stV ⟨op, dst, a, b, c, n⟩] w fun e w' => e = .returned (.bool (stOk ⟨op, dst, a, b, c, n⟩)) ∧ Below w.heap.size w w' := by
  have HB := Lib.hid hop
  have HV : Hid (stOk ⟨op, dst, a, b, c, n⟩ = ((op == 13) && (dst == 0) && (a == 0) && (b == 0) && (c == 0) && (n == 0))) := by show _ = _; simp [stOk, HB.out, p1, p2, p10, p11, p12, Bool.and_assoc]
  have q1 : (op == 1) = false := by simp; omega
  have q2 : (op == 2) = false := by simp; omega
  have q10 : (op == 10) = false := by simp; omega
  have q11 : (op == 11) = false := by simp; omega
  have q12 : (op == 12) = false := by simp; omega
  clear hop p1 p2 p10 p11 p12
  unfold stV
  go_enter Tryd.func31, Tryd.ntmps31
  go_wp2_with (go_at_call 32; refine (isBinary_any _ _).mono ?_; rintro e w' ⟨rfl, rfl⟩; rw [HB.out])
  all_goals go_ret
  all_goals exact ⟨ret_bool (by rw [HV.out]; try simp [*]), (by first | exact (Below.refl _ _).alloc (Nat.le_refl _) _ | exact ((Below.refl _ _).alloc (Nat.le_refl _) _).alloc (by simp) _)⟩
theorem iStmtOk_any (s : St) (w : World) :
    Calls Tryd.prog 31 #[stV s] w fun e w' => e = .returned (.bool (stOk s)) ∧ Below w.heap.size w w' := by
  obtain ⟨op, dst, a, b, c, n⟩ := s
  by_cases p1 : op = 1
  · subst p1; exact iStmtOk_const dst a b c n w
  by_cases p2 : op = 2
  · subst p2; exact iStmtOk_input dst a b c n w
  cases hop : inB op 3 9
  case true => exact iStmtOk_bin op dst a b c n hop w
  by_cases p10 : op = 10
  · subst p10; exact iStmtOk_mux dst a b c n w
  by_cases p11 : op = 11
  · subst p11; exact iStmtOk_out dst a b c n w
  by_cases p12 : op = 12
  · subst p12; exact iStmtOk_loop dst a b c n w
  exact iStmtOk_else op dst a b c n hop p1 p2 p10 p11 p12 w
end Go.Proofs.YtigefmobejclaaaDoor

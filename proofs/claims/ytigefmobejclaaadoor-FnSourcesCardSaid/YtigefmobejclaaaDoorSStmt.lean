/- Contracts of l08Plain and l08Reg. -/
import Derived.Test.YtigefmobejclaaaDoorStmt
namespace Go.Proofs.YtigefmobejclaaaDoor
open Go.RowKit
set_option linter.unusedSimpArgs false

def plainS (s : St) : St :=
  if s.op = 1 then ⟨s.op, s.dst, 0, 0, 0, s.n⟩
  else if s.op = 2 then ⟨s.op, s.dst, s.a, 0, 0, s.n⟩
  else if inB s.op 3 9 then ⟨s.op, s.dst, s.a, s.b, 0, 0⟩
  else if s.op = 10 then ⟨s.op, s.dst, s.a, s.b, s.c, 0⟩
  else if s.op = 11 then ⟨s.op, 0, s.a, 0, 0, 0⟩
  else if s.op = 12 then ⟨s.op, 0, 0, 0, 0, s.n⟩
  else ⟨s.op, 0, 0, 0, 0, 0⟩

theorem l08Reg_any (a : Int) (w : World) :
    Calls Tryd.prog 46 #[.int .i64 a] w fun e w' => e = .returned (.bool (inB a 0 7)) ∧ w = w' := by
  go_enter Tryd.func46, Tryd.ntmps46
  go_wp2_with (go_at_call 47; refine (l01In_any _ _ _ _).mono ?_; rintro e w' ⟨rfl, rfl⟩)
  go_ret
  exact ⟨rfl, rfl⟩

theorem stV_eq (s : St) : stV s = .agg #[.int .i64 s.op, .int .i64 s.dst, .int .i64 s.a, .int .i64 s.b, .int .i64 s.c, .int .i64 s.n] := rfl

set_option maxHeartbeats 1000000 in
theorem l08Plain_const (dst a b c n : Int) (w : World) :
    Calls Tryd.prog 45 #[stV ⟨1, dst, a, b, c, n⟩] w fun e w' => e = .returned (stV (plainS ⟨1, dst, a, b, c, n⟩)) ∧ Below w.heap.size w w' := by
  have HP : Hid (plainS ⟨1, dst, a, b, c, n⟩ = ⟨1, dst, 0, 0, 0, n⟩) := by show _ = _; simp [plainS]
  have HB : Hid (inB 1 3 9 = false) := (by decide : inB 1 3 9 = false)
  rw [HP.out]
  unfold stV
  go_enter Tryd.func45, Tryd.ntmps45
  go_wp2_with (go_at_call 47; refine (l01In_any _ _ _ _).mono ?_; rintro e w' ⟨rfl, rfl⟩; rw [HB.out])
  exact bodyPost_ret (v := .agg #[.int .i64 1, .int .i64 dst, .int .i64 0, .int .i64 0, .int .i64 0, .int .i64 n]) (by simp [results, Tryd.results45, go_sem]) rfl ⟨rfl, (by (repeat (first | with_reducible exact Below.refl _ _ | (with_reducible refine bel_next ?_ ?_ (by assumption)) | (with_reducible refine Below.alloc ?_ ?_ _) | (with_reducible refine Below.drew ?_) | (with_reducible refine below_drewN ?_ _) | (with_reducible refine Below.setCell ?_ ?_ _))) <;> (first | omega | (simp; done) | (simp; omega)))⟩
set_option maxHeartbeats 1000000 in
theorem l08Plain_input (dst a b c n : Int) (w : World) :
    Calls Tryd.prog 45 #[stV ⟨2, dst, a, b, c, n⟩] w fun e w' => e = .returned (stV (plainS ⟨2, dst, a, b, c, n⟩)) ∧ Below w.heap.size w w' := by
  have HP : Hid (plainS ⟨2, dst, a, b, c, n⟩ = ⟨2, dst, a, 0, 0, n⟩) := by show _ = _; simp [plainS]
  have HB : Hid (inB 2 3 9 = false) := (by decide : inB 2 3 9 = false)
  rw [HP.out]
  unfold stV
  go_enter Tryd.func45, Tryd.ntmps45
  go_wp2_with (go_at_call 47; refine (l01In_any _ _ _ _).mono ?_; rintro e w' ⟨rfl, rfl⟩; rw [HB.out])
  exact bodyPost_ret (v := .agg #[.int .i64 2, .int .i64 dst, .int .i64 a, .int .i64 0, .int .i64 0, .int .i64 n]) (by simp [results, Tryd.results45, go_sem]) rfl ⟨rfl, (by (repeat (first | with_reducible exact Below.refl _ _ | (with_reducible refine bel_next ?_ ?_ (by assumption)) | (with_reducible refine Below.alloc ?_ ?_ _) | (with_reducible refine Below.drew ?_) | (with_reducible refine below_drewN ?_ _) | (with_reducible refine Below.setCell ?_ ?_ _))) <;> (first | omega | (simp; done) | (simp; omega)))⟩
set_option maxHeartbeats 1000000 in
theorem l08Plain_bin (op : Int) (dst a b c n : Int) (hop : inB op 3 9 = true) (w : World) :
    Calls Tryd.prog 45 #[stV ⟨op, dst, a, b, c, n⟩] w fun e w' => e = .returned (stV (plainS ⟨op, dst, a, b, c, n⟩)) ∧ Below w.heap.size w w' := by
  have HP : Hid (plainS ⟨op, dst, a, b, c, n⟩ = ⟨op, dst, a, b, 0, 0⟩) := by show _ = _; have hh := inB_iff.1 hop; have p1 : ¬ op = 1 := (by omega); have p2 : ¬ op = 2 := (by omega); simp [plainS, hop, p1, p2]
  have hh := inB_iff.1 hop; have q1 : (op == 1) = false := by simp; omega
  have q2 : (op == 2) = false := by simp; omega
  have HB := Lib.hid hop; clear hop hh
  rw [HP.out]
  unfold stV
  go_enter Tryd.func45, Tryd.ntmps45
  go_wp2_with (go_at_call 47; refine (l01In_any _ _ _ _).mono ?_; rintro e w' ⟨rfl, rfl⟩; rw [HB.out])
  exact bodyPost_ret (v := .agg #[.int .i64 op, .int .i64 dst, .int .i64 a, .int .i64 b, .int .i64 0, .int .i64 0]) (by simp [results, Tryd.results45, go_sem]) rfl ⟨rfl, (by (repeat (first | with_reducible exact Below.refl _ _ | (with_reducible refine bel_next ?_ ?_ (by assumption)) | (with_reducible refine Below.alloc ?_ ?_ _) | (with_reducible refine Below.drew ?_) | (with_reducible refine below_drewN ?_ _) | (with_reducible refine Below.setCell ?_ ?_ _))) <;> (first | omega | (simp; done) | (simp; omega)))⟩
set_option maxHeartbeats 1000000 in
theorem l08Plain_mux (dst a b c n : Int) (w : World) :
    Calls Tryd.prog 45 #[stV ⟨10, dst, a, b, c, n⟩] w fun e w' => e = .returned (stV (plainS ⟨10, dst, a, b, c, n⟩)) ∧ Below w.heap.size w w' := by
  have HP : Hid (plainS ⟨10, dst, a, b, c, n⟩ = ⟨10, dst, a, b, c, 0⟩) := by show _ = _; simp [plainS, show inB 10 3 9 = false from by decide]
  have HB : Hid (inB 10 3 9 = false) := (by decide : inB 10 3 9 = false)
  rw [HP.out]
  unfold stV
  go_enter Tryd.func45, Tryd.ntmps45
  go_wp2_with (go_at_call 47; refine (l01In_any _ _ _ _).mono ?_; rintro e w' ⟨rfl, rfl⟩; rw [HB.out])
  exact bodyPost_ret (v := .agg #[.int .i64 10, .int .i64 dst, .int .i64 a, .int .i64 b, .int .i64 c, .int .i64 0]) (by simp [results, Tryd.results45, go_sem]) rfl ⟨rfl, (by (repeat (first | with_reducible exact Below.refl _ _ | (with_reducible refine bel_next ?_ ?_ (by assumption)) | (with_reducible refine Below.alloc ?_ ?_ _) | (with_reducible refine Below.drew ?_) | (with_reducible refine below_drewN ?_ _) | (with_reducible refine Below.setCell ?_ ?_ _))) <;> (first | omega | (simp; done) | (simp; omega)))⟩
set_option maxHeartbeats 1000000 in
theorem l08Plain_out (dst a b c n : Int) (w : World) :
    Calls Tryd.prog 45 #[stV ⟨11, dst, a, b, c, n⟩] w fun e w' => e = .returned (stV (plainS ⟨11, dst, a, b, c, n⟩)) ∧ Below w.heap.size w w' := by
  have HP : Hid (plainS ⟨11, dst, a, b, c, n⟩ = ⟨11, 0, a, 0, 0, 0⟩) := by show _ = _; simp [plainS, show inB 11 3 9 = false from by decide]
  have HB : Hid (inB 11 3 9 = false) := (by decide : inB 11 3 9 = false)
  rw [HP.out]
  unfold stV
  go_enter Tryd.func45, Tryd.ntmps45
  go_wp2_with (go_at_call 47; refine (l01In_any _ _ _ _).mono ?_; rintro e w' ⟨rfl, rfl⟩; rw [HB.out])
  exact bodyPost_ret (v := .agg #[.int .i64 11, .int .i64 0, .int .i64 a, .int .i64 0, .int .i64 0, .int .i64 0]) (by simp [results, Tryd.results45, go_sem]) rfl ⟨rfl, (by (repeat (first | with_reducible exact Below.refl _ _ | (with_reducible refine bel_next ?_ ?_ (by assumption)) | (with_reducible refine Below.alloc ?_ ?_ _) | (with_reducible refine Below.drew ?_) | (with_reducible refine below_drewN ?_ _) | (with_reducible refine Below.setCell ?_ ?_ _))) <;> (first | omega | (simp; done) | (simp; omega)))⟩
set_option maxHeartbeats 1000000 in
theorem l08Plain_loop (dst a b c n : Int) (w : World) :
    Calls Tryd.prog 45 #[stV ⟨12, dst, a, b, c, n⟩] w fun e w' => e = .returned (stV (plainS ⟨12, dst, a, b, c, n⟩)) ∧ Below w.heap.size w w' := by
  have HP : Hid (plainS ⟨12, dst, a, b, c, n⟩ = ⟨12, 0, 0, 0, 0, n⟩) := by show _ = _; simp [plainS, show inB 12 3 9 = false from by decide]
  have HB : Hid (inB 12 3 9 = false) := (by decide : inB 12 3 9 = false)
  rw [HP.out]
  unfold stV
  go_enter Tryd.func45, Tryd.ntmps45
  go_wp2_with (go_at_call 47; refine (l01In_any _ _ _ _).mono ?_; rintro e w' ⟨rfl, rfl⟩; rw [HB.out])
  exact bodyPost_ret (v := .agg #[.int .i64 12, .int .i64 0, .int .i64 0, .int .i64 0, .int .i64 0, .int .i64 n]) (by simp [results, Tryd.results45, go_sem]) rfl ⟨rfl, (by (repeat (first | with_reducible exact Below.refl _ _ | (with_reducible refine bel_next ?_ ?_ (by assumption)) | (with_reducible refine Below.alloc ?_ ?_ _) | (with_reducible refine Below.drew ?_) | (with_reducible refine below_drewN ?_ _) | (with_reducible refine Below.setCell ?_ ?_ _))) <;> (first | omega | (simp; done) | (simp; omega)))⟩
set_option maxHeartbeats 1000000 in
theorem l08Plain_else (op : Int) (dst a b c n : Int) (hop : inB op 3 9 = false) (p1 : ¬ op = 1) (p2 : ¬ op = 2) (p10 : ¬ op = 10) (p11 : ¬ op = 11) (p12 : ¬ op = 12) (w : World) :
    Calls Tryd.prog 45 #[stV ⟨op, dst, a, b, c, n⟩] w fun e w' => e = .returned (stV (plainS ⟨op, dst, a, b, c, n⟩)) ∧ Below w.heap.size w w' := by
  have HP : Hid (plainS ⟨op, dst, a, b, c, n⟩ = ⟨op, 0, 0, 0, 0, 0⟩) := by show _ = _; simp [plainS, hop, p1, p2, p10, p11, p12]
  have HB := Lib.hid hop; have q1 : (op == 1) = false := (by simp; omega); have q2 : (op == 2) = false := (by simp; omega); have q10 : (op == 10) = false := (by simp; omega); have q11 : (op == 11) = false := (by simp; omega); have q12 : (op == 12) = false := (by simp; omega); clear hop p1 p2 p10 p11 p12
  rw [HP.out]
  unfold stV
  go_enter Tryd.func45, Tryd.ntmps45
  go_wp2_with (go_at_call 47; refine (l01In_any _ _ _ _).mono ?_; rintro e w' ⟨rfl, rfl⟩; rw [HB.out])
  exact bodyPost_ret (v := .agg #[.int .i64 op, .int .i64 0, .int .i64 0, .int .i64 0, .int .i64 0, .int .i64 0]) (by simp [results, Tryd.results45, go_sem]) rfl ⟨rfl, (by (repeat (first | with_reducible exact Below.refl _ _ | (with_reducible refine bel_next ?_ ?_ (by assumption)) | (with_reducible refine Below.alloc ?_ ?_ _) | (with_reducible refine Below.drew ?_) | (with_reducible refine below_drewN ?_ _) | (with_reducible refine Below.setCell ?_ ?_ _))) <;> (first | omega | (simp; done) | (simp; omega)))⟩
theorem l08Plain_any (s : St) (w : World) :
    Calls Tryd.prog 45 #[stV s] w fun e w' => e = .returned (stV (plainS s)) ∧ Below w.heap.size w w' := by
  obtain ⟨op, dst, a, b, c, n⟩ := s
  by_cases p1 : op = 1
  · subst p1; exact l08Plain_const dst a b c n w
  by_cases p2 : op = 2
  · subst p2; exact l08Plain_input dst a b c n w
  cases hop : inB op 3 9
  case true => exact l08Plain_bin op dst a b c n hop w
  by_cases p10 : op = 10
  · subst p10; exact l08Plain_mux dst a b c n w
  by_cases p11 : op = 11
  · subst p11; exact l08Plain_out dst a b c n w
  by_cases p12 : op = 12
  · subst p12; exact l08Plain_loop dst a b c n w
  exact l08Plain_else op dst a b c n hop p1 p2 p10 p11 p12 w
end Go.Proofs.YtigefmobejclaaaDoor

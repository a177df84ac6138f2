/- The spec's StmtOk. -/
import Derived.Test.YtigefmobejclaaaDoorSStmt
import Derived.Test.YtigefmobejclaaaDoorQuiet
namespace Go.Proofs.YtigefmobejclaaaDoor
open Go.RowKit
set_option linter.unusedSimpArgs false

def eqS (s t : St) : Bool := (s.op == t.op) && (s.dst == t.dst) && (s.a == t.a) && (s.b == t.b) && (s.c == t.c) && (s.n == t.n)
def lastS (s : St) : Bool := if s.op = 1 then inB s.n 0 15 else if s.op = 2 then decide (s.a < 5) && inB s.n 0 3 else if s.op = 12 then inB s.n 1 8 else inB s.op 3 13
def regsS (s : St) : Bool := inB s.dst 0 7 && inB s.a 0 7 && inB s.b 0 7 && inB s.c 0 7

set_option maxHeartbeats 2000000 in
theorem sStmtOk_ne0 (sop sdst sa sb sc sn op dst a b c n : Int) (he : plainS ⟨sop, sdst, sa, sb, sc, sn⟩ = ⟨op, dst, a, b, c, n⟩) (hd : (sop == op) = false) (w : World) :
    Calls Tryd.prog 27 #[stV ⟨sop, sdst, sa, sb, sc, sn⟩] w fun e w' => e = .returned (.bool false) ∧ Below w.heap.size w w' := by
  have HC := Lib.hid (fun w => l08Plain_any ⟨sop, sdst, sa, sb, sc, sn⟩ w)
  rw [he] at HC
  clear he
  unfold stV at HC ⊢
  simp only at HC
  go_enter Tryd.func27, Tryd.ntmps27
  go_wp2_with fail
  have hS := (Bx6.box w (.int .i64 sop) (.int .i64 sdst) (.int .i64 sa) (.int .i64 sb) (.int .i64 sc) (.int .i64 sn) 26).drew
  refine wp_region_in _ (by kernel_rfl) (by kernel_rfl) hS ?_
  haveI : Nonempty (WIn (Bx6 w w.heap.size (.int .i64 sop) (.int .i64 sdst) (.int .i64 sa) (.int .i64 sb) (.int .i64 sc) (.int .i64 sn))) := ⟨⟨_, hS⟩⟩
  have c0 := fun x => in6_0 (w0 := w) (g := w.heap.size) (v0 := .int .i64 sop) (v1 := .int .i64 sdst) (v2 := .int .i64 sa) (v3 := .int .i64 sb) (v4 := .int .i64 sc) (v5 := .int .i64 sn) x
  have c1 := fun x => in6_1 (w0 := w) (g := w.heap.size) (v0 := .int .i64 sop) (v1 := .int .i64 sdst) (v2 := .int .i64 sa) (v3 := .int .i64 sb) (v4 := .int .i64 sc) (v5 := .int .i64 sn) x
  have c2 := fun x => in6_2 (w0 := w) (g := w.heap.size) (v0 := .int .i64 sop) (v1 := .int .i64 sdst) (v2 := .int .i64 sa) (v3 := .int .i64 sb) (v4 := .int .i64 sc) (v5 := .int .i64 sn) x
  have c3 := fun x => in6_3 (w0 := w) (g := w.heap.size) (v0 := .int .i64 sop) (v1 := .int .i64 sdst) (v2 := .int .i64 sa) (v3 := .int .i64 sb) (v4 := .int .i64 sc) (v5 := .int .i64 sn) x
  have c4 := fun x => in6_4 (w0 := w) (g := w.heap.size) (v0 := .int .i64 sop) (v1 := .int .i64 sdst) (v2 := .int .i64 sa) (v3 := .int .i64 sb) (v4 := .int .i64 sc) (v5 := .int .i64 sn) x
  have c5 := fun x => in6_5 (w0 := w) (g := w.heap.size) (v0 := .int .i64 sop) (v1 := .int .i64 sdst) (v2 := .int .i64 sa) (v3 := .int .i64 sb) (v4 := .int .i64 sc) (v5 := .int .i64 sn) x
  repeat (go_big_quiet_step ((go_at_call 45; exact Calls.in6 _ (HC.out _))))
  refine wpQuiet_nil ?_
  rintro _ ⟨x, rfl⟩
  go_wp2
  go_ret
  exact ⟨rfl, x.ok.bel⟩
set_option maxHeartbeats 2000000 in
theorem sStmtOk_ne1 (sop sdst sa sb sc sn dst a b c n : Int) (he : plainS ⟨sop, sdst, sa, sb, sc, sn⟩ = ⟨sop, dst, a, b, c, n⟩) (hd : (sdst == dst) = false) (w : World) :
    Calls Tryd.prog 27 #[stV ⟨sop, sdst, sa, sb, sc, sn⟩] w fun e w' => e = .returned (.bool false) ∧ Below w.heap.size w w' := by
  have HC := Lib.hid (fun w => l08Plain_any ⟨sop, sdst, sa, sb, sc, sn⟩ w)
  rw [he] at HC
  clear he
  unfold stV at HC ⊢
  simp only at HC
  go_enter Tryd.func27, Tryd.ntmps27
  go_wp2_with fail
  have hS := (Bx6.box w (.int .i64 sop) (.int .i64 sdst) (.int .i64 sa) (.int .i64 sb) (.int .i64 sc) (.int .i64 sn) 26).drew
  refine wp_region_in _ (by kernel_rfl) (by kernel_rfl) hS ?_
  haveI : Nonempty (WIn (Bx6 w w.heap.size (.int .i64 sop) (.int .i64 sdst) (.int .i64 sa) (.int .i64 sb) (.int .i64 sc) (.int .i64 sn))) := ⟨⟨_, hS⟩⟩
  have c0 := fun x => in6_0 (w0 := w) (g := w.heap.size) (v0 := .int .i64 sop) (v1 := .int .i64 sdst) (v2 := .int .i64 sa) (v3 := .int .i64 sb) (v4 := .int .i64 sc) (v5 := .int .i64 sn) x
  have c1 := fun x => in6_1 (w0 := w) (g := w.heap.size) (v0 := .int .i64 sop) (v1 := .int .i64 sdst) (v2 := .int .i64 sa) (v3 := .int .i64 sb) (v4 := .int .i64 sc) (v5 := .int .i64 sn) x
  have c2 := fun x => in6_2 (w0 := w) (g := w.heap.size) (v0 := .int .i64 sop) (v1 := .int .i64 sdst) (v2 := .int .i64 sa) (v3 := .int .i64 sb) (v4 := .int .i64 sc) (v5 := .int .i64 sn) x
  have c3 := fun x => in6_3 (w0 := w) (g := w.heap.size) (v0 := .int .i64 sop) (v1 := .int .i64 sdst) (v2 := .int .i64 sa) (v3 := .int .i64 sb) (v4 := .int .i64 sc) (v5 := .int .i64 sn) x
  have c4 := fun x => in6_4 (w0 := w) (g := w.heap.size) (v0 := .int .i64 sop) (v1 := .int .i64 sdst) (v2 := .int .i64 sa) (v3 := .int .i64 sb) (v4 := .int .i64 sc) (v5 := .int .i64 sn) x
  have c5 := fun x => in6_5 (w0 := w) (g := w.heap.size) (v0 := .int .i64 sop) (v1 := .int .i64 sdst) (v2 := .int .i64 sa) (v3 := .int .i64 sb) (v4 := .int .i64 sc) (v5 := .int .i64 sn) x
  repeat (go_big_quiet_step ((go_at_call 45; exact Calls.in6 _ (HC.out _))))
  refine wpQuiet_nil ?_
  rintro _ ⟨x, rfl⟩
  go_wp2
  go_ret
  exact ⟨rfl, x.ok.bel⟩
set_option maxHeartbeats 2000000 in
theorem sStmtOk_ne2 (sop sdst sa sb sc sn a b c n : Int) (he : plainS ⟨sop, sdst, sa, sb, sc, sn⟩ = ⟨sop, sdst, a, b, c, n⟩) (hd : (sa == a) = false) (w : World) :
    Calls Tryd.prog 27 #[stV ⟨sop, sdst, sa, sb, sc, sn⟩] w fun e w' => e = .returned (.bool false) ∧ Below w.heap.size w w' := by
  have HC := Lib.hid (fun w => l08Plain_any ⟨sop, sdst, sa, sb, sc, sn⟩ w)
  rw [he] at HC
  clear he
  unfold stV at HC ⊢
  simp only at HC
  go_enter Tryd.func27, Tryd.ntmps27
  go_wp2_with fail
  have hS := (Bx6.box w (.int .i64 sop) (.int .i64 sdst) (.int .i64 sa) (.int .i64 sb) (.int .i64 sc) (.int .i64 sn) 26).drew
  refine wp_region_in _ (by kernel_rfl) (by kernel_rfl) hS ?_
  haveI : Nonempty (WIn (Bx6 w w.heap.size (.int .i64 sop) (.int .i64 sdst) (.int .i64 sa) (.int .i64 sb) (.int .i64 sc) (.int .i64 sn))) := ⟨⟨_, hS⟩⟩
  have c0 := fun x => in6_0 (w0 := w) (g := w.heap.size) (v0 := .int .i64 sop) (v1 := .int .i64 sdst) (v2 := .int .i64 sa) (v3 := .int .i64 sb) (v4 := .int .i64 sc) (v5 := .int .i64 sn) x
  have c1 := fun x => in6_1 (w0 := w) (g := w.heap.size) (v0 := .int .i64 sop) (v1 := .int .i64 sdst) (v2 := .int .i64 sa) (v3 := .int .i64 sb) (v4 := .int .i64 sc) (v5 := .int .i64 sn) x
  have c2 := fun x => in6_2 (w0 := w) (g := w.heap.size) (v0 := .int .i64 sop) (v1 := .int .i64 sdst) (v2 := .int .i64 sa) (v3 := .int .i64 sb) (v4 := .int .i64 sc) (v5 := .int .i64 sn) x
  have c3 := fun x => in6_3 (w0 := w) (g := w.heap.size) (v0 := .int .i64 sop) (v1 := .int .i64 sdst) (v2 := .int .i64 sa) (v3 := .int .i64 sb) (v4 := .int .i64 sc) (v5 := .int .i64 sn) x
  have c4 := fun x => in6_4 (w0 := w) (g := w.heap.size) (v0 := .int .i64 sop) (v1 := .int .i64 sdst) (v2 := .int .i64 sa) (v3 := .int .i64 sb) (v4 := .int .i64 sc) (v5 := .int .i64 sn) x
  have c5 := fun x => in6_5 (w0 := w) (g := w.heap.size) (v0 := .int .i64 sop) (v1 := .int .i64 sdst) (v2 := .int .i64 sa) (v3 := .int .i64 sb) (v4 := .int .i64 sc) (v5 := .int .i64 sn) x
  repeat (go_big_quiet_step ((go_at_call 45; exact Calls.in6 _ (HC.out _))))
  refine wpQuiet_nil ?_
  rintro _ ⟨x, rfl⟩
  go_wp2
  go_ret
  exact ⟨rfl, x.ok.bel⟩
set_option maxHeartbeats 2000000 in
theorem sStmtOk_ne3 (sop sdst sa sb sc sn b c n : Int) (he : plainS ⟨sop, sdst, sa, sb, sc, sn⟩ = ⟨sop, sdst, sa, b, c, n⟩) (hd : (sb == b) = false) (w : World) :
    Calls Tryd.prog 27 #[stV ⟨sop, sdst, sa, sb, sc, sn⟩] w fun e w' => e = .returned (.bool false) ∧ Below w.heap.size w w' := by
  have HC := Lib.hid (fun w => l08Plain_any ⟨sop, sdst, sa, sb, sc, sn⟩ w)
  rw [he] at HC
  clear he
  unfold stV at HC ⊢
  simp only at HC
  go_enter Tryd.func27, Tryd.ntmps27
  go_wp2_with fail
  have hS := (Bx6.box w (.int .i64 sop) (.int .i64 sdst) (.int .i64 sa) (.int .i64 sb) (.int .i64 sc) (.int .i64 sn) 26).drew
  refine wp_region_in _ (by kernel_rfl) (by kernel_rfl) hS ?_
  haveI : Nonempty (WIn (Bx6 w w.heap.size (.int .i64 sop) (.int .i64 sdst) (.int .i64 sa) (.int .i64 sb) (.int .i64 sc) (.int .i64 sn))) := ⟨⟨_, hS⟩⟩
  have c0 := fun x => in6_0 (w0 := w) (g := w.heap.size) (v0 := .int .i64 sop) (v1 := .int .i64 sdst) (v2 := .int .i64 sa) (v3 := .int .i64 sb) (v4 := .int .i64 sc) (v5 := .int .i64 sn) x
  have c1 := fun x => in6_1 (w0 := w) (g := w.heap.size) (v0 := .int .i64 sop) (v1 := .int .i64 sdst) (v2 := .int .i64 sa) (v3 := .int .i64 sb) (v4 := .int .i64 sc) (v5 := .int .i64 sn) x
  have c2 := fun x => in6_2 (w0 := w) (g := w.heap.size) (v0 := .int .i64 sop) (v1 := .int .i64 sdst) (v2 := .int .i64 sa) (v3 := .int .i64 sb) (v4 := .int .i64 sc) (v5 := .int .i64 sn) x
  have c3 := fun x => in6_3 (w0 := w) (g := w.heap.size) (v0 := .int .i64 sop) (v1 := .int .i64 sdst) (v2 := .int .i64 sa) (v3 := .int .i64 sb) (v4 := .int .i64 sc) (v5 := .int .i64 sn) x
  have c4 := fun x => in6_4 (w0 := w) (g := w.heap.size) (v0 := .int .i64 sop) (v1 := .int .i64 sdst) (v2 := .int .i64 sa) (v3 := .int .i64 sb) (v4 := .int .i64 sc) (v5 := .int .i64 sn) x
  have c5 := fun x => in6_5 (w0 := w) (g := w.heap.size) (v0 := .int .i64 sop) (v1 := .int .i64 sdst) (v2 := .int .i64 sa) (v3 := .int .i64 sb) (v4 := .int .i64 sc) (v5 := .int .i64 sn) x
  repeat (go_big_quiet_step ((go_at_call 45; exact Calls.in6 _ (HC.out _))))
  refine wpQuiet_nil ?_
  rintro _ ⟨x, rfl⟩
  go_wp2
  go_ret
  exact ⟨rfl, x.ok.bel⟩
set_option maxHeartbeats 2000000 in
theorem sStmtOk_ne4 (sop sdst sa sb sc sn c n : Int) (he : plainS ⟨sop, sdst, sa, sb, sc, sn⟩ = ⟨sop, sdst, sa, sb, c, n⟩) (hd : (sc == c) = false) (w : World) :
    Calls Tryd.prog 27 #[stV ⟨sop, sdst, sa, sb, sc, sn⟩] w fun e w' => e = .returned (.bool false) ∧ Below w.heap.size w w' := by
  have HC := Lib.hid (fun w => l08Plain_any ⟨sop, sdst, sa, sb, sc, sn⟩ w)
  rw [he] at HC
  clear he
  unfold stV at HC ⊢
  simp only at HC
  go_enter Tryd.func27, Tryd.ntmps27
  go_wp2_with fail
  have hS := (Bx6.box w (.int .i64 sop) (.int .i64 sdst) (.int .i64 sa) (.int .i64 sb) (.int .i64 sc) (.int .i64 sn) 26).drew
  refine wp_region_in _ (by kernel_rfl) (by kernel_rfl) hS ?_
  haveI : Nonempty (WIn (Bx6 w w.heap.size (.int .i64 sop) (.int .i64 sdst) (.int .i64 sa) (.int .i64 sb) (.int .i64 sc) (.int .i64 sn))) := ⟨⟨_, hS⟩⟩
  have c0 := fun x => in6_0 (w0 := w) (g := w.heap.size) (v0 := .int .i64 sop) (v1 := .int .i64 sdst) (v2 := .int .i64 sa) (v3 := .int .i64 sb) (v4 := .int .i64 sc) (v5 := .int .i64 sn) x
  have c1 := fun x => in6_1 (w0 := w) (g := w.heap.size) (v0 := .int .i64 sop) (v1 := .int .i64 sdst) (v2 := .int .i64 sa) (v3 := .int .i64 sb) (v4 := .int .i64 sc) (v5 := .int .i64 sn) x
  have c2 := fun x => in6_2 (w0 := w) (g := w.heap.size) (v0 := .int .i64 sop) (v1 := .int .i64 sdst) (v2 := .int .i64 sa) (v3 := .int .i64 sb) (v4 := .int .i64 sc) (v5 := .int .i64 sn) x
  have c3 := fun x => in6_3 (w0 := w) (g := w.heap.size) (v0 := .int .i64 sop) (v1 := .int .i64 sdst) (v2 := .int .i64 sa) (v3 := .int .i64 sb) (v4 := .int .i64 sc) (v5 := .int .i64 sn) x
  have c4 := fun x => in6_4 (w0 := w) (g := w.heap.size) (v0 := .int .i64 sop) (v1 := .int .i64 sdst) (v2 := .int .i64 sa) (v3 := .int .i64 sb) (v4 := .int .i64 sc) (v5 := .int .i64 sn) x
  have c5 := fun x => in6_5 (w0 := w) (g := w.heap.size) (v0 := .int .i64 sop) (v1 := .int .i64 sdst) (v2 := .int .i64 sa) (v3 := .int .i64 sb) (v4 := .int .i64 sc) (v5 := .int .i64 sn) x
  repeat (go_big_quiet_step ((go_at_call 45; exact Calls.in6 _ (HC.out _))))
  refine wpQuiet_nil ?_
  rintro _ ⟨x, rfl⟩
  go_wp2
  go_ret
  exact ⟨rfl, x.ok.bel⟩
set_option maxHeartbeats 2000000 in
theorem sStmtOk_ne5 (sop sdst sa sb sc sn n : Int) (he : plainS ⟨sop, sdst, sa, sb, sc, sn⟩ = ⟨sop, sdst, sa, sb, sc, n⟩) (hd : (sn == n) = false) (w : World) :
    Calls Tryd.prog 27 #[stV ⟨sop, sdst, sa, sb, sc, sn⟩] w fun e w' => e = .returned (.bool false) ∧ Below w.heap.size w w' := by
  have HC := Lib.hid (fun w => l08Plain_any ⟨sop, sdst, sa, sb, sc, sn⟩ w)
  rw [he] at HC
  clear he
  unfold stV at HC ⊢
  simp only at HC
  go_enter Tryd.func27, Tryd.ntmps27
  go_wp2_with fail
  have hS := (Bx6.box w (.int .i64 sop) (.int .i64 sdst) (.int .i64 sa) (.int .i64 sb) (.int .i64 sc) (.int .i64 sn) 26).drew
  refine wp_region_in _ (by kernel_rfl) (by kernel_rfl) hS ?_
  haveI : Nonempty (WIn (Bx6 w w.heap.size (.int .i64 sop) (.int .i64 sdst) (.int .i64 sa) (.int .i64 sb) (.int .i64 sc) (.int .i64 sn))) := ⟨⟨_, hS⟩⟩
  have c0 := fun x => in6_0 (w0 := w) (g := w.heap.size) (v0 := .int .i64 sop) (v1 := .int .i64 sdst) (v2 := .int .i64 sa) (v3 := .int .i64 sb) (v4 := .int .i64 sc) (v5 := .int .i64 sn) x
  have c1 := fun x => in6_1 (w0 := w) (g := w.heap.size) (v0 := .int .i64 sop) (v1 := .int .i64 sdst) (v2 := .int .i64 sa) (v3 := .int .i64 sb) (v4 := .int .i64 sc) (v5 := .int .i64 sn) x
  have c2 := fun x => in6_2 (w0 := w) (g := w.heap.size) (v0 := .int .i64 sop) (v1 := .int .i64 sdst) (v2 := .int .i64 sa) (v3 := .int .i64 sb) (v4 := .int .i64 sc) (v5 := .int .i64 sn) x
  have c3 := fun x => in6_3 (w0 := w) (g := w.heap.size) (v0 := .int .i64 sop) (v1 := .int .i64 sdst) (v2 := .int .i64 sa) (v3 := .int .i64 sb) (v4 := .int .i64 sc) (v5 := .int .i64 sn) x
  have c4 := fun x => in6_4 (w0 := w) (g := w.heap.size) (v0 := .int .i64 sop) (v1 := .int .i64 sdst) (v2 := .int .i64 sa) (v3 := .int .i64 sb) (v4 := .int .i64 sc) (v5 := .int .i64 sn) x
  have c5 := fun x => in6_5 (w0 := w) (g := w.heap.size) (v0 := .int .i64 sop) (v1 := .int .i64 sdst) (v2 := .int .i64 sa) (v3 := .int .i64 sb) (v4 := .int .i64 sc) (v5 := .int .i64 sn) x
  repeat (go_big_quiet_step ((go_at_call 45; exact Calls.in6 _ (HC.out _))))
  refine wpQuiet_nil ?_
  rintro _ ⟨x, rfl⟩
  go_wp2
  go_ret
  exact ⟨rfl, x.ok.bel⟩
set_option maxHeartbeats 2000000 in
theorem sStmtOk_eq0 (sop sdst sa sb sc sn : Int) (he : plainS ⟨sop, sdst, sa, sb, sc, sn⟩ = ⟨sop, sdst, sa, sb, sc, sn⟩)  (t0 : inB sdst 0 7 = false) (w : World) :
    Calls Tryd.prog 27 #[stV ⟨sop, sdst, sa, sb, sc, sn⟩] w fun e w' => e = .returned (.bool (false)) ∧ Below w.heap.size w w' := by
  have HC := Lib.hid (fun w => l08Plain_any ⟨sop, sdst, sa, sb, sc, sn⟩ w)
  rw [he] at HC
  clear he
  unfold stV at HC ⊢
  simp only at HC
  go_enter Tryd.func27, Tryd.ntmps27
  go_wp2_with fail
  have T0 : Hid (∀ w : World, Calls Tryd.prog 46 #[.int .i64 sdst] w fun e w' => e = .returned (.bool false) ∧ w = w') := fun w => by have := l08Reg_any sdst w; rw [t0] at this; exact this
  have hS := (Bx6.box w (.int .i64 sop) (.int .i64 sdst) (.int .i64 sa) (.int .i64 sb) (.int .i64 sc) (.int .i64 sn) 26).drew
  refine wp_region_in _ (by kernel_rfl) (by kernel_rfl) hS ?_
  haveI : Nonempty (WIn (Bx6 w w.heap.size (.int .i64 sop) (.int .i64 sdst) (.int .i64 sa) (.int .i64 sb) (.int .i64 sc) (.int .i64 sn))) := ⟨⟨_, hS⟩⟩
  have c0 := fun x => in6_0 (w0 := w) (g := w.heap.size) (v0 := .int .i64 sop) (v1 := .int .i64 sdst) (v2 := .int .i64 sa) (v3 := .int .i64 sb) (v4 := .int .i64 sc) (v5 := .int .i64 sn) x
  have c1 := fun x => in6_1 (w0 := w) (g := w.heap.size) (v0 := .int .i64 sop) (v1 := .int .i64 sdst) (v2 := .int .i64 sa) (v3 := .int .i64 sb) (v4 := .int .i64 sc) (v5 := .int .i64 sn) x
  have c2 := fun x => in6_2 (w0 := w) (g := w.heap.size) (v0 := .int .i64 sop) (v1 := .int .i64 sdst) (v2 := .int .i64 sa) (v3 := .int .i64 sb) (v4 := .int .i64 sc) (v5 := .int .i64 sn) x
  have c3 := fun x => in6_3 (w0 := w) (g := w.heap.size) (v0 := .int .i64 sop) (v1 := .int .i64 sdst) (v2 := .int .i64 sa) (v3 := .int .i64 sb) (v4 := .int .i64 sc) (v5 := .int .i64 sn) x
  have c4 := fun x => in6_4 (w0 := w) (g := w.heap.size) (v0 := .int .i64 sop) (v1 := .int .i64 sdst) (v2 := .int .i64 sa) (v3 := .int .i64 sb) (v4 := .int .i64 sc) (v5 := .int .i64 sn) x
  have c5 := fun x => in6_5 (w0 := w) (g := w.heap.size) (v0 := .int .i64 sop) (v1 := .int .i64 sdst) (v2 := .int .i64 sa) (v3 := .int .i64 sb) (v4 := .int .i64 sc) (v5 := .int .i64 sn) x
  repeat (go_big_quiet_step ((first | (go_at_call 45; exact Calls.in6 _ (HC.out _)) | (go_at_call 46; with_reducible exact Calls.in6s _ (T0.out _)))))
  refine wpQuiet_nil ?_
  rintro _ ⟨x, rfl⟩
  go_wp2
  go_ret
  exact ⟨rfl, x.ok.bel⟩
set_option maxHeartbeats 2000000 in
theorem sStmtOk_eq1 (sop sdst sa sb sc sn : Int) (he : plainS ⟨sop, sdst, sa, sb, sc, sn⟩ = ⟨sop, sdst, sa, sb, sc, sn⟩) (t0 : inB sdst 0 7 = true) (t1 : inB sa 0 7 = false) (w : World) :
    Calls Tryd.prog 27 #[stV ⟨sop, sdst, sa, sb, sc, sn⟩] w fun e w' => e = .returned (.bool (false)) ∧ Below w.heap.size w w' := by
  have HC := Lib.hid (fun w => l08Plain_any ⟨sop, sdst, sa, sb, sc, sn⟩ w)
  rw [he] at HC
  clear he
  unfold stV at HC ⊢
  simp only at HC
  go_enter Tryd.func27, Tryd.ntmps27
  go_wp2_with fail
  have T0 : Hid (∀ w : World, Calls Tryd.prog 46 #[.int .i64 sdst] w fun e w' => e = .returned (.bool true) ∧ w = w') := fun w => by have := l08Reg_any sdst w; rw [t0] at this; exact this
  have T1 : Hid (∀ w : World, Calls Tryd.prog 46 #[.int .i64 sa] w fun e w' => e = .returned (.bool false) ∧ w = w') := fun w => by have := l08Reg_any sa w; rw [t1] at this; exact this
  have hS := (Bx6.box w (.int .i64 sop) (.int .i64 sdst) (.int .i64 sa) (.int .i64 sb) (.int .i64 sc) (.int .i64 sn) 26).drew
  refine wp_region_in _ (by kernel_rfl) (by kernel_rfl) hS ?_
  haveI : Nonempty (WIn (Bx6 w w.heap.size (.int .i64 sop) (.int .i64 sdst) (.int .i64 sa) (.int .i64 sb) (.int .i64 sc) (.int .i64 sn))) := ⟨⟨_, hS⟩⟩
  have c0 := fun x => in6_0 (w0 := w) (g := w.heap.size) (v0 := .int .i64 sop) (v1 := .int .i64 sdst) (v2 := .int .i64 sa) (v3 := .int .i64 sb) (v4 := .int .i64 sc) (v5 := .int .i64 sn) x
  have c1 := fun x => in6_1 (w0 := w) (g := w.heap.size) (v0 := .int .i64 sop) (v1 := .int .i64 sdst) (v2 := .int .i64 sa) (v3 := .int .i64 sb) (v4 := .int .i64 sc) (v5 := .int .i64 sn) x
  have c2 := fun x => in6_2 (w0 := w) (g := w.heap.size) (v0 := .int .i64 sop) (v1 := .int .i64 sdst) (v2 := .int .i64 sa) (v3 := .int .i64 sb) (v4 := .int .i64 sc) (v5 := .int .i64 sn) x
  have c3 := fun x => in6_3 (w0 := w) (g := w.heap.size) (v0 := .int .i64 sop) (v1 := .int .i64 sdst) (v2 := .int .i64 sa) (v3 := .int .i64 sb) (v4 := .int .i64 sc) (v5 := .int .i64 sn) x
  have c4 := fun x => in6_4 (w0 := w) (g := w.heap.size) (v0 := .int .i64 sop) (v1 := .int .i64 sdst) (v2 := .int .i64 sa) (v3 := .int .i64 sb) (v4 := .int .i64 sc) (v5 := .int .i64 sn) x
  have c5 := fun x => in6_5 (w0 := w) (g := w.heap.size) (v0 := .int .i64 sop) (v1 := .int .i64 sdst) (v2 := .int .i64 sa) (v3 := .int .i64 sb) (v4 := .int .i64 sc) (v5 := .int .i64 sn) x
  repeat (go_big_quiet_step ((first | (go_at_call 45; exact Calls.in6 _ (HC.out _)) | (go_at_call 46; with_reducible exact Calls.in6s _ (T0.out _)) | (go_at_call 46; with_reducible exact Calls.in6s _ (T1.out _)))))
  refine wpQuiet_nil ?_
  rintro _ ⟨x, rfl⟩
  go_wp2
  go_ret
  exact ⟨rfl, x.ok.bel⟩
set_option maxHeartbeats 2000000 in
theorem sStmtOk_eq2 (sop sdst sa sb sc sn : Int) (he : plainS ⟨sop, sdst, sa, sb, sc, sn⟩ = ⟨sop, sdst, sa, sb, sc, sn⟩) (t0 : inB sdst 0 7 = true) (t1 : inB sa 0 7 = true) (t2 : inB sb 0 7 = false) (w : World) :
    Calls Tryd.prog 27 #[stV ⟨sop, sdst, sa, sb, sc, sn⟩] w fun e w' => e = .returned (.bool (false)) ∧ Below w.heap.size w w' := by
  have HC := Lib.hid (fun w => l08Plain_any ⟨sop, sdst, sa, sb, sc, sn⟩ w)
  rw [he] at HC
  clear he
  unfold stV at HC ⊢
  simp only at HC
  go_enter Tryd.func27, Tryd.ntmps27
  go_wp2_with fail
  have T0 : Hid (∀ w : World, Calls Tryd.prog 46 #[.int .i64 sdst] w fun e w' => e = .returned (.bool true) ∧ w = w') := fun w => by have := l08Reg_any sdst w; rw [t0] at this; exact this
  have T1 : Hid (∀ w : World, Calls Tryd.prog 46 #[.int .i64 sa] w fun e w' => e = .returned (.bool true) ∧ w = w') := fun w => by have := l08Reg_any sa w; rw [t1] at this; exact this
  have T2 : Hid (∀ w : World, Calls Tryd.prog 46 #[.int .i64 sb] w fun e w' => e = .returned (.bool false) ∧ w = w') := fun w => by have := l08Reg_any sb w; rw [t2] at this; exact this
  have hS := (Bx6.box w (.int .i64 sop) (.int .i64 sdst) (.int .i64 sa) (.int .i64 sb) (.int .i64 sc) (.int .i64 sn) 26).drew
  refine wp_region_in _ (by kernel_rfl) (by kernel_rfl) hS ?_
  haveI : Nonempty (WIn (Bx6 w w.heap.size (.int .i64 sop) (.int .i64 sdst) (.int .i64 sa) (.int .i64 sb) (.int .i64 sc) (.int .i64 sn))) := ⟨⟨_, hS⟩⟩
  have c0 := fun x => in6_0 (w0 := w) (g := w.heap.size) (v0 := .int .i64 sop) (v1 := .int .i64 sdst) (v2 := .int .i64 sa) (v3 := .int .i64 sb) (v4 := .int .i64 sc) (v5 := .int .i64 sn) x
  have c1 := fun x => in6_1 (w0 := w) (g := w.heap.size) (v0 := .int .i64 sop) (v1 := .int .i64 sdst) (v2 := .int .i64 sa) (v3 := .int .i64 sb) (v4 := .int .i64 sc) (v5 := .int .i64 sn) x
  have c2 := fun x => in6_2 (w0 := w) (g := w.heap.size) (v0 := .int .i64 sop) (v1 := .int .i64 sdst) (v2 := .int .i64 sa) (v3 := .int .i64 sb) (v4 := .int .i64 sc) (v5 := .int .i64 sn) x
  have c3 := fun x => in6_3 (w0 := w) (g := w.heap.size) (v0 := .int .i64 sop) (v1 := .int .i64 sdst) (v2 := .int .i64 sa) (v3 := .int .i64 sb) (v4 := .int .i64 sc) (v5 := .int .i64 sn) x
  have c4 := fun x => in6_4 (w0 := w) (g := w.heap.size) (v0 := .int .i64 sop) (v1 := .int .i64 sdst) (v2 := .int .i64 sa) (v3 := .int .i64 sb) (v4 := .int .i64 sc) (v5 := .int .i64 sn) x
  have c5 := fun x => in6_5 (w0 := w) (g := w.heap.size) (v0 := .int .i64 sop) (v1 := .int .i64 sdst) (v2 := .int .i64 sa) (v3 := .int .i64 sb) (v4 := .int .i64 sc) (v5 := .int .i64 sn) x
  repeat (go_big_quiet_step ((first | (go_at_call 45; exact Calls.in6 _ (HC.out _)) | (go_at_call 46; with_reducible exact Calls.in6s _ (T0.out _)) | (go_at_call 46; with_reducible exact Calls.in6s _ (T1.out _)) | (go_at_call 46; with_reducible exact Calls.in6s _ (T2.out _)))))
  refine wpQuiet_nil ?_
  rintro _ ⟨x, rfl⟩
  go_wp2
  go_ret
  exact ⟨rfl, x.ok.bel⟩
set_option maxHeartbeats 2000000 in
theorem sStmtOk_eq3 (sop sdst sa sb sc sn : Int) (he : plainS ⟨sop, sdst, sa, sb, sc, sn⟩ = ⟨sop, sdst, sa, sb, sc, sn⟩) (t0 : inB sdst 0 7 = true) (t1 : inB sa 0 7 = true) (t2 : inB sb 0 7 = true) (t3 : inB sc 0 7 = false) (w : World) :
    Calls Tryd.prog 27 #[stV ⟨sop, sdst, sa, sb, sc, sn⟩] w fun e w' => e = .returned (.bool (false)) ∧ Below w.heap.size w w' := by
  have HC := Lib.hid (fun w => l08Plain_any ⟨sop, sdst, sa, sb, sc, sn⟩ w)
  rw [he] at HC
  clear he
  unfold stV at HC ⊢
  simp only at HC
  go_enter Tryd.func27, Tryd.ntmps27
  go_wp2_with fail
  have T0 : Hid (∀ w : World, Calls Tryd.prog 46 #[.int .i64 sdst] w fun e w' => e = .returned (.bool true) ∧ w = w') := fun w => by have := l08Reg_any sdst w; rw [t0] at this; exact this
  have T1 : Hid (∀ w : World, Calls Tryd.prog 46 #[.int .i64 sa] w fun e w' => e = .returned (.bool true) ∧ w = w') := fun w => by have := l08Reg_any sa w; rw [t1] at this; exact this
  have T2 : Hid (∀ w : World, Calls Tryd.prog 46 #[.int .i64 sb] w fun e w' => e = .returned (.bool true) ∧ w = w') := fun w => by have := l08Reg_any sb w; rw [t2] at this; exact this
  have T3 : Hid (∀ w : World, Calls Tryd.prog 46 #[.int .i64 sc] w fun e w' => e = .returned (.bool false) ∧ w = w') := fun w => by have := l08Reg_any sc w; rw [t3] at this; exact this
  have hS := (Bx6.box w (.int .i64 sop) (.int .i64 sdst) (.int .i64 sa) (.int .i64 sb) (.int .i64 sc) (.int .i64 sn) 26).drew
  refine wp_region_in _ (by kernel_rfl) (by kernel_rfl) hS ?_
  haveI : Nonempty (WIn (Bx6 w w.heap.size (.int .i64 sop) (.int .i64 sdst) (.int .i64 sa) (.int .i64 sb) (.int .i64 sc) (.int .i64 sn))) := ⟨⟨_, hS⟩⟩
  have c0 := fun x => in6_0 (w0 := w) (g := w.heap.size) (v0 := .int .i64 sop) (v1 := .int .i64 sdst) (v2 := .int .i64 sa) (v3 := .int .i64 sb) (v4 := .int .i64 sc) (v5 := .int .i64 sn) x
  have c1 := fun x => in6_1 (w0 := w) (g := w.heap.size) (v0 := .int .i64 sop) (v1 := .int .i64 sdst) (v2 := .int .i64 sa) (v3 := .int .i64 sb) (v4 := .int .i64 sc) (v5 := .int .i64 sn) x
  have c2 := fun x => in6_2 (w0 := w) (g := w.heap.size) (v0 := .int .i64 sop) (v1 := .int .i64 sdst) (v2 := .int .i64 sa) (v3 := .int .i64 sb) (v4 := .int .i64 sc) (v5 := .int .i64 sn) x
  have c3 := fun x => in6_3 (w0 := w) (g := w.heap.size) (v0 := .int .i64 sop) (v1 := .int .i64 sdst) (v2 := .int .i64 sa) (v3 := .int .i64 sb) (v4 := .int .i64 sc) (v5 := .int .i64 sn) x
  have c4 := fun x => in6_4 (w0 := w) (g := w.heap.size) (v0 := .int .i64 sop) (v1 := .int .i64 sdst) (v2 := .int .i64 sa) (v3 := .int .i64 sb) (v4 := .int .i64 sc) (v5 := .int .i64 sn) x
  have c5 := fun x => in6_5 (w0 := w) (g := w.heap.size) (v0 := .int .i64 sop) (v1 := .int .i64 sdst) (v2 := .int .i64 sa) (v3 := .int .i64 sb) (v4 := .int .i64 sc) (v5 := .int .i64 sn) x
  repeat (go_big_quiet_step ((first | (go_at_call 45; exact Calls.in6 _ (HC.out _)) | (go_at_call 46; with_reducible exact Calls.in6s _ (T0.out _)) | (go_at_call 46; with_reducible exact Calls.in6s _ (T1.out _)) | (go_at_call 46; with_reducible exact Calls.in6s _ (T2.out _)) | (go_at_call 46; with_reducible exact Calls.in6s _ (T3.out _)))))
  refine wpQuiet_nil ?_
  rintro _ ⟨x, rfl⟩
  go_wp2
  go_ret
  exact ⟨rfl, x.ok.bel⟩
set_option maxHeartbeats 2000000 in
theorem sStmtOk_c1 (sdst sa sb sc sn : Int) (he : plainS ⟨1, sdst, sa, sb, sc, sn⟩ = ⟨1, sdst, sa, sb, sc, sn⟩) (t0 : inB sdst 0 7 = true) (t1 : inB sa 0 7 = true) (t2 : inB sb 0 7 = true) (t3 : inB sc 0 7 = true) (w : World) :
    Calls Tryd.prog 27 #[stV ⟨1, sdst, sa, sb, sc, sn⟩] w fun e w' => e = .returned (.bool (lastS ⟨1, sdst, sa, sb, sc, sn⟩)) ∧ Below w.heap.size w w' := by
  have HC := Lib.hid (fun w => l08Plain_any ⟨1, sdst, sa, sb, sc, sn⟩ w)
  rw [he] at HC
  clear he
  unfold stV at HC ⊢
  simp only at HC
  have HL : Hid (lastS ⟨1, sdst, sa, sb, sc, sn⟩ = (inB sn 0 15)) := by show _ = _; simp [lastS]
  go_enter Tryd.func27, Tryd.ntmps27
  go_wp2_with fail
  have T0 : Hid (∀ w : World, Calls Tryd.prog 46 #[.int .i64 sdst] w fun e w' => e = .returned (.bool true) ∧ w = w') := fun w => by have := l08Reg_any sdst w; rw [t0] at this; exact this
  have T1 : Hid (∀ w : World, Calls Tryd.prog 46 #[.int .i64 sa] w fun e w' => e = .returned (.bool true) ∧ w = w') := fun w => by have := l08Reg_any sa w; rw [t1] at this; exact this
  have T2 : Hid (∀ w : World, Calls Tryd.prog 46 #[.int .i64 sb] w fun e w' => e = .returned (.bool true) ∧ w = w') := fun w => by have := l08Reg_any sb w; rw [t2] at this; exact this
  have T3 : Hid (∀ w : World, Calls Tryd.prog 46 #[.int .i64 sc] w fun e w' => e = .returned (.bool true) ∧ w = w') := fun w => by have := l08Reg_any sc w; rw [t3] at this; exact this
  have hS := (Bx6.box w (.int .i64 1) (.int .i64 sdst) (.int .i64 sa) (.int .i64 sb) (.int .i64 sc) (.int .i64 sn) 26).drew
  refine wp_region_in _ (by kernel_rfl) (by kernel_rfl) hS ?_
  haveI : Nonempty (WIn (Bx6 w w.heap.size (.int .i64 1) (.int .i64 sdst) (.int .i64 sa) (.int .i64 sb) (.int .i64 sc) (.int .i64 sn))) := ⟨⟨_, hS⟩⟩
  have c0 := fun x => in6_0 (w0 := w) (g := w.heap.size) (v0 := .int .i64 1) (v1 := .int .i64 sdst) (v2 := .int .i64 sa) (v3 := .int .i64 sb) (v4 := .int .i64 sc) (v5 := .int .i64 sn) x
  have c1 := fun x => in6_1 (w0 := w) (g := w.heap.size) (v0 := .int .i64 1) (v1 := .int .i64 sdst) (v2 := .int .i64 sa) (v3 := .int .i64 sb) (v4 := .int .i64 sc) (v5 := .int .i64 sn) x
  have c2 := fun x => in6_2 (w0 := w) (g := w.heap.size) (v0 := .int .i64 1) (v1 := .int .i64 sdst) (v2 := .int .i64 sa) (v3 := .int .i64 sb) (v4 := .int .i64 sc) (v5 := .int .i64 sn) x
  have c3 := fun x => in6_3 (w0 := w) (g := w.heap.size) (v0 := .int .i64 1) (v1 := .int .i64 sdst) (v2 := .int .i64 sa) (v3 := .int .i64 sb) (v4 := .int .i64 sc) (v5 := .int .i64 sn) x
  have c4 := fun x => in6_4 (w0 := w) (g := w.heap.size) (v0 := .int .i64 1) (v1 := .int .i64 sdst) (v2 := .int .i64 sa) (v3 := .int .i64 sb) (v4 := .int .i64 sc) (v5 := .int .i64 sn) x
  have c5 := fun x => in6_5 (w0 := w) (g := w.heap.size) (v0 := .int .i64 1) (v1 := .int .i64 sdst) (v2 := .int .i64 sa) (v3 := .int .i64 sb) (v4 := .int .i64 sc) (v5 := .int .i64 sn) x
  repeat (go_big_quiet_step ((first | (go_at_call 45; exact Calls.in6 _ (HC.out _)) | (go_at_call 46; with_reducible exact Calls.in6s _ (T0.out _)) | (go_at_call 46; with_reducible exact Calls.in6s _ (T1.out _)) | (go_at_call 46; with_reducible exact Calls.in6s _ (T2.out _)) | (go_at_call 46; with_reducible exact Calls.in6s _ (T3.out _)))))
  refine wpQuiet_nil ?_
  rintro _ ⟨x, rfl⟩
  all_goals go_wp2_with (go_at_call 47; refine (l01In_any _ _ _ _).mono ?_; rintro e w' ⟨rfl, rfl⟩)
  all_goals go_ret
  all_goals exact ⟨ret_bool (by rw [HL.out]), x.ok.bel⟩
set_option maxHeartbeats 2000000 in
theorem sStmtOk_c2a (sdst sa sb sc sn : Int) (he : plainS ⟨2, sdst, sa, sb, sc, sn⟩ = ⟨2, sdst, sa, sb, sc, sn⟩) (t0 : inB sdst 0 7 = true) (t1 : inB sa 0 7 = true) (t2 : inB sb 0 7 = true) (t3 : inB sc 0 7 = true) (h5 : sa < 5) (w : World) :
    Calls Tryd.prog 27 #[stV ⟨2, sdst, sa, sb, sc, sn⟩] w fun e w' => e = .returned (.bool (lastS ⟨2, sdst, sa, sb, sc, sn⟩)) ∧ Below w.heap.size w w' := by
  have HC := Lib.hid (fun w => l08Plain_any ⟨2, sdst, sa, sb, sc, sn⟩ w)
  rw [he] at HC
  clear he
  unfold stV at HC ⊢
  simp only at HC
  have HL : Hid (lastS ⟨2, sdst, sa, sb, sc, sn⟩ = (inB sn 0 3)) := by show _ = _; simp [lastS, h5]
  go_enter Tryd.func27, Tryd.ntmps27
  go_wp2_with fail
  have T0 : Hid (∀ w : World, Calls Tryd.prog 46 #[.int .i64 sdst] w fun e w' => e = .returned (.bool true) ∧ w = w') := fun w => by have := l08Reg_any sdst w; rw [t0] at this; exact this
  have T1 : Hid (∀ w : World, Calls Tryd.prog 46 #[.int .i64 sa] w fun e w' => e = .returned (.bool true) ∧ w = w') := fun w => by have := l08Reg_any sa w; rw [t1] at this; exact this
  have T2 : Hid (∀ w : World, Calls Tryd.prog 46 #[.int .i64 sb] w fun e w' => e = .returned (.bool true) ∧ w = w') := fun w => by have := l08Reg_any sb w; rw [t2] at this; exact this
  have T3 : Hid (∀ w : World, Calls Tryd.prog 46 #[.int .i64 sc] w fun e w' => e = .returned (.bool true) ∧ w = w') := fun w => by have := l08Reg_any sc w; rw [t3] at this; exact this
  have hS := (Bx6.box w (.int .i64 2) (.int .i64 sdst) (.int .i64 sa) (.int .i64 sb) (.int .i64 sc) (.int .i64 sn) 26).drew
  refine wp_region_in _ (by kernel_rfl) (by kernel_rfl) hS ?_
  haveI : Nonempty (WIn (Bx6 w w.heap.size (.int .i64 2) (.int .i64 sdst) (.int .i64 sa) (.int .i64 sb) (.int .i64 sc) (.int .i64 sn))) := ⟨⟨_, hS⟩⟩
  have c0 := fun x => in6_0 (w0 := w) (g := w.heap.size) (v0 := .int .i64 2) (v1 := .int .i64 sdst) (v2 := .int .i64 sa) (v3 := .int .i64 sb) (v4 := .int .i64 sc) (v5 := .int .i64 sn) x
  have c1 := fun x => in6_1 (w0 := w) (g := w.heap.size) (v0 := .int .i64 2) (v1 := .int .i64 sdst) (v2 := .int .i64 sa) (v3 := .int .i64 sb) (v4 := .int .i64 sc) (v5 := .int .i64 sn) x
  have c2 := fun x => in6_2 (w0 := w) (g := w.heap.size) (v0 := .int .i64 2) (v1 := .int .i64 sdst) (v2 := .int .i64 sa) (v3 := .int .i64 sb) (v4 := .int .i64 sc) (v5 := .int .i64 sn) x
  have c3 := fun x => in6_3 (w0 := w) (g := w.heap.size) (v0 := .int .i64 2) (v1 := .int .i64 sdst) (v2 := .int .i64 sa) (v3 := .int .i64 sb) (v4 := .int .i64 sc) (v5 := .int .i64 sn) x
  have c4 := fun x => in6_4 (w0 := w) (g := w.heap.size) (v0 := .int .i64 2) (v1 := .int .i64 sdst) (v2 := .int .i64 sa) (v3 := .int .i64 sb) (v4 := .int .i64 sc) (v5 := .int .i64 sn) x
  have c5 := fun x => in6_5 (w0 := w) (g := w.heap.size) (v0 := .int .i64 2) (v1 := .int .i64 sdst) (v2 := .int .i64 sa) (v3 := .int .i64 sb) (v4 := .int .i64 sc) (v5 := .int .i64 sn) x
  repeat (go_big_quiet_step ((first | (go_at_call 45; exact Calls.in6 _ (HC.out _)) | (go_at_call 46; with_reducible exact Calls.in6s _ (T0.out _)) | (go_at_call 46; with_reducible exact Calls.in6s _ (T1.out _)) | (go_at_call 46; with_reducible exact Calls.in6s _ (T2.out _)) | (go_at_call 46; with_reducible exact Calls.in6s _ (T3.out _)))))
  refine wpQuiet_nil ?_
  rintro _ ⟨x, rfl⟩
  all_goals go_wp2_with (go_at_call 47; refine (l01In_any _ _ _ _).mono ?_; rintro e w' ⟨rfl, rfl⟩)
  all_goals go_ret
  all_goals exact ⟨ret_bool (by rw [HL.out]), x.ok.bel⟩
set_option maxHeartbeats 2000000 in
theorem sStmtOk_c2b (sdst sa sb sc sn : Int) (he : plainS ⟨2, sdst, sa, sb, sc, sn⟩ = ⟨2, sdst, sa, sb, sc, sn⟩) (t0 : inB sdst 0 7 = true) (t1 : inB sa 0 7 = true) (t2 : inB sb 0 7 = true) (t3 : inB sc 0 7 = true) (h5 : ¬ sa < 5) (w : World) :
    Calls Tryd.prog 27 #[stV ⟨2, sdst, sa, sb, sc, sn⟩] w fun e w' => e = .returned (.bool (lastS ⟨2, sdst, sa, sb, sc, sn⟩)) ∧ Below w.heap.size w w' := by
  have HC := Lib.hid (fun w => l08Plain_any ⟨2, sdst, sa, sb, sc, sn⟩ w)
  rw [he] at HC
  clear he
  unfold stV at HC ⊢
  simp only at HC
  have HL : Hid (lastS ⟨2, sdst, sa, sb, sc, sn⟩ = (false)) := by show _ = _; simp [lastS, h5]
  go_enter Tryd.func27, Tryd.ntmps27
  go_wp2_with fail
  have T0 : Hid (∀ w : World, Calls Tryd.prog 46 #[.int .i64 sdst] w fun e w' => e = .returned (.bool true) ∧ w = w') := fun w => by have := l08Reg_any sdst w; rw [t0] at this; exact this
  have T1 : Hid (∀ w : World, Calls Tryd.prog 46 #[.int .i64 sa] w fun e w' => e = .returned (.bool true) ∧ w = w') := fun w => by have := l08Reg_any sa w; rw [t1] at this; exact this
  have T2 : Hid (∀ w : World, Calls Tryd.prog 46 #[.int .i64 sb] w fun e w' => e = .returned (.bool true) ∧ w = w') := fun w => by have := l08Reg_any sb w; rw [t2] at this; exact this
  have T3 : Hid (∀ w : World, Calls Tryd.prog 46 #[.int .i64 sc] w fun e w' => e = .returned (.bool true) ∧ w = w') := fun w => by have := l08Reg_any sc w; rw [t3] at this; exact this
  have hS := (Bx6.box w (.int .i64 2) (.int .i64 sdst) (.int .i64 sa) (.int .i64 sb) (.int .i64 sc) (.int .i64 sn) 26).drew
  refine wp_region_in _ (by kernel_rfl) (by kernel_rfl) hS ?_
  haveI : Nonempty (WIn (Bx6 w w.heap.size (.int .i64 2) (.int .i64 sdst) (.int .i64 sa) (.int .i64 sb) (.int .i64 sc) (.int .i64 sn))) := ⟨⟨_, hS⟩⟩
  have c0 := fun x => in6_0 (w0 := w) (g := w.heap.size) (v0 := .int .i64 2) (v1 := .int .i64 sdst) (v2 := .int .i64 sa) (v3 := .int .i64 sb) (v4 := .int .i64 sc) (v5 := .int .i64 sn) x
  have c1 := fun x => in6_1 (w0 := w) (g := w.heap.size) (v0 := .int .i64 2) (v1 := .int .i64 sdst) (v2 := .int .i64 sa) (v3 := .int .i64 sb) (v4 := .int .i64 sc) (v5 := .int .i64 sn) x
  have c2 := fun x => in6_2 (w0 := w) (g := w.heap.size) (v0 := .int .i64 2) (v1 := .int .i64 sdst) (v2 := .int .i64 sa) (v3 := .int .i64 sb) (v4 := .int .i64 sc) (v5 := .int .i64 sn) x
  have c3 := fun x => in6_3 (w0 := w) (g := w.heap.size) (v0 := .int .i64 2) (v1 := .int .i64 sdst) (v2 := .int .i64 sa) (v3 := .int .i64 sb) (v4 := .int .i64 sc) (v5 := .int .i64 sn) x
  have c4 := fun x => in6_4 (w0 := w) (g := w.heap.size) (v0 := .int .i64 2) (v1 := .int .i64 sdst) (v2 := .int .i64 sa) (v3 := .int .i64 sb) (v4 := .int .i64 sc) (v5 := .int .i64 sn) x
  have c5 := fun x => in6_5 (w0 := w) (g := w.heap.size) (v0 := .int .i64 2) (v1 := .int .i64 sdst) (v2 := .int .i64 sa) (v3 := .int .i64 sb) (v4 := .int .i64 sc) (v5 := .int .i64 sn) x
  repeat (go_big_quiet_step ((first | (go_at_call 45; exact Calls.in6 _ (HC.out _)) | (go_at_call 46; with_reducible exact Calls.in6s _ (T0.out _)) | (go_at_call 46; with_reducible exact Calls.in6s _ (T1.out _)) | (go_at_call 46; with_reducible exact Calls.in6s _ (T2.out _)) | (go_at_call 46; with_reducible exact Calls.in6s _ (T3.out _)))))
  refine wpQuiet_nil ?_
  rintro _ ⟨x, rfl⟩
  all_goals go_wp2_with (go_at_call 47; refine (l01In_any _ _ _ _).mono ?_; rintro e w' ⟨rfl, rfl⟩)
  all_goals go_ret
  all_goals exact ⟨ret_bool (by rw [HL.out]), x.ok.bel⟩
set_option maxHeartbeats 2000000 in
theorem sStmtOk_c12 (sdst sa sb sc sn : Int) (he : plainS ⟨12, sdst, sa, sb, sc, sn⟩ = ⟨12, sdst, sa, sb, sc, sn⟩) (t0 : inB sdst 0 7 = true) (t1 : inB sa 0 7 = true) (t2 : inB sb 0 7 = true) (t3 : inB sc 0 7 = true) (w : World) :
    Calls Tryd.prog 27 #[stV ⟨12, sdst, sa, sb, sc, sn⟩] w fun e w' => e = .returned (.bool (lastS ⟨12, sdst, sa, sb, sc, sn⟩)) ∧ Below w.heap.size w w' := by
  have HC := Lib.hid (fun w => l08Plain_any ⟨12, sdst, sa, sb, sc, sn⟩ w)
  rw [he] at HC
  clear he
  unfold stV at HC ⊢
  simp only at HC
  have HL : Hid (lastS ⟨12, sdst, sa, sb, sc, sn⟩ = (inB sn 1 8)) := by show _ = _; simp [lastS]
  go_enter Tryd.func27, Tryd.ntmps27
  go_wp2_with fail
  have T0 : Hid (∀ w : World, Calls Tryd.prog 46 #[.int .i64 sdst] w fun e w' => e = .returned (.bool true) ∧ w = w') := fun w => by have := l08Reg_any sdst w; rw [t0] at this; exact this
  have T1 : Hid (∀ w : World, Calls Tryd.prog 46 #[.int .i64 sa] w fun e w' => e = .returned (.bool true) ∧ w = w') := fun w => by have := l08Reg_any sa w; rw [t1] at this; exact this
  have T2 : Hid (∀ w : World, Calls Tryd.prog 46 #[.int .i64 sb] w fun e w' => e = .returned (.bool true) ∧ w = w') := fun w => by have := l08Reg_any sb w; rw [t2] at this; exact this
  have T3 : Hid (∀ w : World, Calls Tryd.prog 46 #[.int .i64 sc] w fun e w' => e = .returned (.bool true) ∧ w = w') := fun w => by have := l08Reg_any sc w; rw [t3] at this; exact this
  have hS := (Bx6.box w (.int .i64 12) (.int .i64 sdst) (.int .i64 sa) (.int .i64 sb) (.int .i64 sc) (.int .i64 sn) 26).drew
  refine wp_region_in _ (by kernel_rfl) (by kernel_rfl) hS ?_
  haveI : Nonempty (WIn (Bx6 w w.heap.size (.int .i64 12) (.int .i64 sdst) (.int .i64 sa) (.int .i64 sb) (.int .i64 sc) (.int .i64 sn))) := ⟨⟨_, hS⟩⟩
  have c0 := fun x => in6_0 (w0 := w) (g := w.heap.size) (v0 := .int .i64 12) (v1 := .int .i64 sdst) (v2 := .int .i64 sa) (v3 := .int .i64 sb) (v4 := .int .i64 sc) (v5 := .int .i64 sn) x
  have c1 := fun x => in6_1 (w0 := w) (g := w.heap.size) (v0 := .int .i64 12) (v1 := .int .i64 sdst) (v2 := .int .i64 sa) (v3 := .int .i64 sb) (v4 := .int .i64 sc) (v5 := .int .i64 sn) x
  have c2 := fun x => in6_2 (w0 := w) (g := w.heap.size) (v0 := .int .i64 12) (v1 := .int .i64 sdst) (v2 := .int .i64 sa) (v3 := .int .i64 sb) (v4 := .int .i64 sc) (v5 := .int .i64 sn) x
  have c3 := fun x => in6_3 (w0 := w) (g := w.heap.size) (v0 := .int .i64 12) (v1 := .int .i64 sdst) (v2 := .int .i64 sa) (v3 := .int .i64 sb) (v4 := .int .i64 sc) (v5 := .int .i64 sn) x
  have c4 := fun x => in6_4 (w0 := w) (g := w.heap.size) (v0 := .int .i64 12) (v1 := .int .i64 sdst) (v2 := .int .i64 sa) (v3 := .int .i64 sb) (v4 := .int .i64 sc) (v5 := .int .i64 sn) x
  have c5 := fun x => in6_5 (w0 := w) (g := w.heap.size) (v0 := .int .i64 12) (v1 := .int .i64 sdst) (v2 := .int .i64 sa) (v3 := .int .i64 sb) (v4 := .int .i64 sc) (v5 := .int .i64 sn) x
  repeat (go_big_quiet_step ((first | (go_at_call 45; exact Calls.in6 _ (HC.out _)) | (go_at_call 46; with_reducible exact Calls.in6s _ (T0.out _)) | (go_at_call 46; with_reducible exact Calls.in6s _ (T1.out _)) | (go_at_call 46; with_reducible exact Calls.in6s _ (T2.out _)) | (go_at_call 46; with_reducible exact Calls.in6s _ (T3.out _)))))
  refine wpQuiet_nil ?_
  rintro _ ⟨x, rfl⟩
  all_goals go_wp2_with (go_at_call 47; refine (l01In_any _ _ _ _).mono ?_; rintro e w' ⟨rfl, rfl⟩)
  all_goals go_ret
  all_goals exact ⟨ret_bool (by rw [HL.out]), x.ok.bel⟩
set_option maxHeartbeats 2000000 in
theorem sStmtOk_celse (sop sdst sa sb sc sn : Int) (he : plainS ⟨sop, sdst, sa, sb, sc, sn⟩ = ⟨sop, sdst, sa, sb, sc, sn⟩) (t0 : inB sdst 0 7 = true) (t1 : inB sa 0 7 = true) (t2 : inB sb 0 7 = true) (t3 : inB sc 0 7 = true) (p1 : ¬ sop = 1) (p2 : ¬ sop = 2) (p12 : ¬ sop = 12) (w : World) :
    Calls Tryd.prog 27 #[stV ⟨sop, sdst, sa, sb, sc, sn⟩] w fun e w' => e = .returned (.bool (lastS ⟨sop, sdst, sa, sb, sc, sn⟩)) ∧ Below w.heap.size w w' := by
  have HC := Lib.hid (fun w => l08Plain_any ⟨sop, sdst, sa, sb, sc, sn⟩ w)
  rw [he] at HC
  clear he
  unfold stV at HC ⊢
  simp only at HC
  have HL : Hid (lastS ⟨sop, sdst, sa, sb, sc, sn⟩ = (inB sop 3 13)) := by show _ = _; simp [lastS, p1, p2, p12]
  have q1 : (sop == 1) = false := by simp; omega
  have q2 : (sop == 2) = false := by simp; omega
  have q12 : (sop == 12) = false := by simp; omega
  clear p1 p2 p12
  go_enter Tryd.func27, Tryd.ntmps27
  go_wp2_with fail
  have T0 : Hid (∀ w : World, Calls Tryd.prog 46 #[.int .i64 sdst] w fun e w' => e = .returned (.bool true) ∧ w = w') := fun w => by have := l08Reg_any sdst w; rw [t0] at this; exact this
  have T1 : Hid (∀ w : World, Calls Tryd.prog 46 #[.int .i64 sa] w fun e w' => e = .returned (.bool true) ∧ w = w') := fun w => by have := l08Reg_any sa w; rw [t1] at this; exact this
  have T2 : Hid (∀ w : World, Calls Tryd.prog 46 #[.int .i64 sb] w fun e w' => e = .returned (.bool true) ∧ w = w') := fun w => by have := l08Reg_any sb w; rw [t2] at this; exact this
  have T3 : Hid (∀ w : World, Calls Tryd.prog 46 #[.int .i64 sc] w fun e w' => e = .returned (.bool true) ∧ w = w') := fun w => by have := l08Reg_any sc w; rw [t3] at this; exact this
  have hS := (Bx6.box w (.int .i64 sop) (.int .i64 sdst) (.int .i64 sa) (.int .i64 sb) (.int .i64 sc) (.int .i64 sn) 26).drew
  refine wp_region_in _ (by kernel_rfl) (by kernel_rfl) hS ?_
  haveI : Nonempty (WIn (Bx6 w w.heap.size (.int .i64 sop) (.int .i64 sdst) (.int .i64 sa) (.int .i64 sb) (.int .i64 sc) (.int .i64 sn))) := ⟨⟨_, hS⟩⟩
  have c0 := fun x => in6_0 (w0 := w) (g := w.heap.size) (v0 := .int .i64 sop) (v1 := .int .i64 sdst) (v2 := .int .i64 sa) (v3 := .int .i64 sb) (v4 := .int .i64 sc) (v5 := .int .i64 sn) x
  have c1 := fun x => in6_1 (w0 := w) (g := w.heap.size) (v0 := .int .i64 sop) (v1 := .int .i64 sdst) (v2 := .int .i64 sa) (v3 := .int .i64 sb) (v4 := .int .i64 sc) (v5 := .int .i64 sn) x
  have c2 := fun x => in6_2 (w0 := w) (g := w.heap.size) (v0 := .int .i64 sop) (v1 := .int .i64 sdst) (v2 := .int .i64 sa) (v3 := .int .i64 sb) (v4 := .int .i64 sc) (v5 := .int .i64 sn) x
  have c3 := fun x => in6_3 (w0 := w) (g := w.heap.size) (v0 := .int .i64 sop) (v1 := .int .i64 sdst) (v2 := .int .i64 sa) (v3 := .int .i64 sb) (v4 := .int .i64 sc) (v5 := .int .i64 sn) x
  have c4 := fun x => in6_4 (w0 := w) (g := w.heap.size) (v0 := .int .i64 sop) (v1 := .int .i64 sdst) (v2 := .int .i64 sa) (v3 := .int .i64 sb) (v4 := .int .i64 sc) (v5 := .int .i64 sn) x
  have c5 := fun x => in6_5 (w0 := w) (g := w.heap.size) (v0 := .int .i64 sop) (v1 := .int .i64 sdst) (v2 := .int .i64 sa) (v3 := .int .i64 sb) (v4 := .int .i64 sc) (v5 := .int .i64 sn) x
  repeat (go_big_quiet_step ((first | (go_at_call 45; exact Calls.in6 _ (HC.out _)) | (go_at_call 46; with_reducible exact Calls.in6s _ (T0.out _)) | (go_at_call 46; with_reducible exact Calls.in6s _ (T1.out _)) | (go_at_call 46; with_reducible exact Calls.in6s _ (T2.out _)) | (go_at_call 46; with_reducible exact Calls.in6s _ (T3.out _)))))
  refine wpQuiet_nil ?_
  rintro _ ⟨x, rfl⟩
  all_goals go_wp2_with (go_at_call 47; refine (l01In_any _ _ _ _).mono ?_; rintro e w' ⟨rfl, rfl⟩)
  all_goals go_ret
  all_goals exact ⟨ret_bool (by rw [HL.out]), x.ok.bel⟩
end Go.Proofs.YtigefmobejclaaaDoor

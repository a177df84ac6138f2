/- Contracts of StmtOk and its kin. -/
import Derived.Test.YtigefmobejclaaaDoorScal
import Derived.Test.YtigefmobejclaaaDoorList
import Derived.Test.YtigefmobejclaaaDoorPlan
namespace Go.Proofs.YtigefmobejclaaaDoor
open Go.RowKit
set_option linter.unusedSimpArgs false

/-- A statement as a value. -/
def stV (s : St) : Value := .agg #[.int .i64 s.op, .int .i64 s.dst, .int .i64 s.a, .int .i64 s.b, .int .i64 s.c, .int .i64 s.n]

set_option maxHeartbeats 1000000 in
theorem isBinary_any (a : Int) (w : World) :
    Calls Tryd.prog 32 #[.int .i64 a] w fun e w' => e = .returned (.bool (inB a 3 9)) ∧ w = w' := by
  go_enter Tryd.func32, Tryd.ntmps32
  go_wp2_with (go_at_call 50; refine (within_any _ _ _ _).mono ?_; rintro e w' ⟨rfl, rfl⟩)
  go_ret
  exact ⟨rfl, rfl⟩

theorem rd1 (w : World) (a : Int) {ad : Option Addr} (h : ad = some ⟨w.heap.size, 0, none⟩) : RdC (w.alloc (.cells #[.int .i64 a] 3)) ad (I64 [a]) := by subst h; exact RdC.alloc w #[.int .i64 a] 3
theorem rd3 (w : World) (a b c : Int) {ad : Option Addr} (h : ad = some ⟨w.heap.size, 0, none⟩) : RdC (w.alloc (.cells #[.int .i64 a, .int .i64 b, .int .i64 c] 3)) ad (I64 [a, b, c]) := by subst h; exact RdC.alloc w #[.int .i64 a, .int .i64 b, .int .i64 c] 3
theorem rd4 (w : World) (a b c d : Int) {ad : Option Addr} (h : ad = some ⟨w.heap.size, 0, none⟩) : RdC (w.alloc (.cells #[.int .i64 a, .int .i64 b, .int .i64 c, .int .i64 d] 3)) ad (I64 [a, b, c, d]) := by subst h; exact RdC.alloc w #[.int .i64 a, .int .i64 b, .int .i64 c, .int .i64 d] 3
theorem isRegL (xs : List Int) (W : World) (ad : Option Addr) (n c : Nat) (hl : xs.length = n) (hn : n ≤ 4) (hr : RdC W ad (I64 xs)) :
    Calls Tryd.prog 49 #[.slice ad n c] W fun e w' => e = .returned (.bool (allB xs 0 7)) ∧ W = w' := by
  subst hl
  exact isReg_any xs ad c W (by unfold maxLen; omega) hr

theorem allB1 (a lo hi : Int) : allB [a] lo hi = inB a lo hi := by simp [allB]
theorem allB3 (a b c lo hi : Int) : allB [a, b, c] lo hi = (inB a lo hi && inB b lo hi && inB c lo hi) := by simp [allB, Bool.and_assoc]
theorem allB4 (a b c d lo hi : Int) : allB [a, b, c, d] lo hi = (inB a lo hi && inB b lo hi && inB c lo hi && inB d lo hi) := by simp [allB, Bool.and_assoc]

end Go.Proofs.YtigefmobejclaaaDoor

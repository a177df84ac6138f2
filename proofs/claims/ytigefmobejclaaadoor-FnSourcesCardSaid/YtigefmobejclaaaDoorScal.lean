/- Contracts of the functions on plain numbers and of the checks over lists. -/
import Derived.Test.YtigefmobejclaaaDoorRows
import Derived.Test.YtigefmobejclaaaDoorArith
import Derived.Test.YtigefmobejclaaaDoorHeap
import Derived.WalkSpells
import Derived.WalkLawsBesides
import Derived.Deep.Light
namespace Go.Proofs.YtigefmobejclaaaDoor
open Go.RowKit

set_option maxHeartbeats 400000 in
theorem within_any (a b c : Int) (w : World) :
    Calls Tryd.prog 50 #[.int .i64 a, .int .i64 b, .int .i64 c] w fun e w' => e = .returned (.bool (inB a b c)) ∧ w = w' := by
  go_enter Tryd.func50, Tryd.ntmps50
  go_wp2
  all_goals go_ret
  all_goals simp [inB, *]
  all_goals omega
set_option maxHeartbeats 400000 in
theorem l01In_any (a b c : Int) (w : World) :
    Calls Tryd.prog 47 #[.int .i64 a, .int .i64 b, .int .i64 c] w fun e w' => e = .returned (.bool (inB a b c)) ∧ w = w' := by
  go_enter Tryd.func47, Tryd.ntmps47
  go_wp2
  all_goals go_ret
  all_goals simp [inB, *]
  all_goals omega
set_option maxHeartbeats 400000 in
theorem isReg_any (xs : List Int) (ad : Option Addr) (c : Nat) (w : World) (hm : xs.length ≤ maxLen) (hr : RdC w ad (I64 xs)) :
    Calls Tryd.prog 49 #[.slice ad xs.length c] w fun e w' => e = .returned (.bool (allB xs 0 7)) ∧ w = w' := by
  unfold maxLen at hm
  go_enter Tryd.func49, Tryd.ntmps49
  go_wp2
  go_loop [7] (fun i => ∃ k : Nat, k ≤ xs.length ∧ i = .int .i64 k ∧ allB (xs.take k) 0 7 = true) (fun i => xs.length - (intOf i).toNat)
  case atStart => exact ⟨0, Nat.zero_le _, rfl, by simp [allB_nil]⟩
  case round =>
    obtain ⟨k, hk, rfl, hall⟩ := hrel
    by_cases hlt : k < xs.length
    · obtain ⟨b, off, rfl, hcell⟩ := hr.at k hlt
      have hc := hcell k hlt
      have HA := Lib.hid hall
      clear hall hcell hr
      cases hb : inB xs[k] 0 7
      · have HF := Lib.hid (allB_fail hlt hb)
        go_wp2_with (go_at_call 50; refine (within_any _ _ _ _).mono ?_; rintro e w' ⟨rfl, rfl⟩)
        go_ret
        exact ⟨ret_bool HF.out.symm, rfl⟩
      · have HF := Lib.hid (allB_snoc hlt HA.out hb)
        go_wp2_with (go_at_call 50; refine (within_any _ _ _ _).mono ?_; rintro e w' ⟨rfl, rfl⟩)
        go_round
        case rel => exact ⟨k + 1, by omega, by go_num, HF.out⟩
        case measure => simp [intOf]; omega
    · have HF := Lib.hid (allB_full (by omega) hall)
      clear hall
      go_wp2
      go_ret
      exact ⟨ret_bool HF.out.symm, rfl⟩
end Go.Proofs.YtigefmobejclaaaDoor

/- Two rows of the same numbers. -/
import Derived.Test.YtfpblgbokmpmjaaList
import Derived.Deep.QuietTactic
import Derived.BigQuiet
namespace Go.Proofs.Ytfpblgbokmpmjaa
open Go.RowKit
set_option linter.unusedVariables false
set_option linter.unusedSimpArgs false
set_option maxHeartbeats 1000000 in
theorem sameInts_same (xs : List Int) (n1 n2 : Nat) (h1 : xs.length = n1) (h2 : xs.length = n2) (ad ad' : Option Addr) (c c' : Nat) (w : World) (hm : xs.length ≤ 1048576) (hr : RdC w ad (I64 xs)) (hr' : RdC w ad' (I64 xs)) :
    Calls Try.prog 47 #[.slice ad n1 c, .slice ad' n2 c'] w fun e w' => e = .returned (.bool true) ∧ ∃ n, w' = w.drewN n := by
  subst h1; subst h2
  go_enter Try.func47, Try.ntmps47
  go_wp2_with fail
  go_loopw [5] (fun i wr => ∃ k : Nat, k ≤ xs.length ∧ i = .int .i64 k ∧ ∃ m, wr = w.drewN m) (fun i _ => xs.length - (intOf i).toNat)
  case atStart => exact ⟨0, Nat.zero_le _, rfl, 0, rfl⟩
  case round =>
    obtain ⟨k, hk, rfl, m, hw⟩ := hrel
    have HW := Lib.hid hw
    by_cases hlt : k < xs.length
    · obtain ⟨b, off, rfl, hc⟩ := (show RdC wr ad (I64 xs) from by rw [hw]; exact hr.drewN m).at k hlt
      obtain ⟨b', off', rfl, hc'⟩ := (show RdC wr ad' (I64 xs) from by rw [hw]; exact hr'.drewN m).at k hlt
      have q1 := hc k hlt
      have q2 := hc' k hlt
      generalize xs[k] = x at q1 q2
      have hi : (k : Int) < (xs.length : Int) := by omega
      clear hr hr' hc hc' hw
      go_wp2_with fail
      go_quiet (fail)
      go_wp2_with fail
      go_roundw
      case rel => exact ⟨k + 1, by omega, by go_num, m + nq, by rw [HW.out, World.drewN_drewN]⟩
      case measure => simp [intOf]; omega
    · clear hw
      go_wp2_with fail
      go_ret
      exact ⟨rfl, m, HW.out⟩

end Go.Proofs.Ytfpblgbokmpmjaa

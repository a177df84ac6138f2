/- Contracts of the laws' helpers over states and flows, and of StateOk. -/
import Derived.Test.YtfcijloiebnloaaList
import Derived.Deep.RegionHeld3
namespace Go.Proofs.Ytfcijloiebnloaa
open Go.RowKit







def stateOk (regs outs : List Int) : Bool := ((regs.length : Int) == 8) && allB regs 0 15 && allB outs 0 15

set_option maxHeartbeats 1000000 in
theorem sStateOk_any (xs ys : List Int) (a1 a2 : Option Addr) (c1 c2 : Nat) (w : World) (hm1 : xs.length ≤ maxLen) (hm2 : ys.length ≤ maxLen) (hr1 : RdC w a1 (I64 xs)) (hr2 : RdC w a2 (I64 ys)) :
    Calls Try.prog 111 #[.agg #[.slice a1 xs.length c1, .slice a2 ys.length c2]] w fun e w' => e = .returned (.bool (stateOk xs ys)) ∧ Below w.heap.size w w' := by
  cases h8 : ((xs.length : Int) == 8) <;> cases hx : allB xs 0 15
  all_goals
    go_enter Try.func111, Try.ntmps111
    go_wp2_with (first | (go_at_call_of 109 (Value.slice a1 xs.length c1); refine (l12All_any xs _ _ _ hm1 (hr1.below ((Below.refl _ _).alloc (Nat.le_refl _) _))).mono ?_; rintro e w' ⟨rfl, rfl⟩) | (go_at_call_of 109 (Value.slice a2 ys.length c2); refine (l12All_any ys _ _ _ hm2 (hr2.below ((Below.refl _ _).alloc (Nat.le_refl _) _))).mono ?_; rintro e w' ⟨rfl, rfl⟩))
    go_ret
    exact ⟨ret_bool (by simp [stateOk, h8, hx]), (by (repeat (first | with_reducible exact Below.refl _ _ | (with_reducible refine bel_next ?_ ?_ (by assumption)) | (with_reducible refine Below.alloc ?_ ?_ _) | (with_reducible refine Below.drew ?_) | (with_reducible refine below_drewN ?_ _) | (with_reducible refine Below.setCell ?_ ?_ _))) <;> (first | omega | (simp; done) | (simp; omega)))⟩


end Go.Proofs.Ytfcijloiebnloaa

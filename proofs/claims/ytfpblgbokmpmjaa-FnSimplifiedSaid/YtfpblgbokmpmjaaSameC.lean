/- Two circuits of the same gates and outs. -/
import Derived.Test.YtfpblgbokmpmjaaSame
import Derived.Test.YtfpblgbokmpmjaaGts
import Derived.Test.YtfpblgbokmpmjaaSimpS
import Derived.Test.YtfpblgbokmpmjaaCirc
import Derived.Deep.QuietTactic
import Derived.BigQuiet
namespace Go.Proofs.Ytfpblgbokmpmjaa
open Go.RowKit
set_option linter.unusedVariables false
set_option linter.unusedSimpArgs false
theorem gt_neq_same (w : World) (a b c : Int) : (binOp .neq 50 (.agg #[.int .i64 a, .int .i64 b, .int .i64 c]) (.agg #[.int .i64 a, .int .i64 b, .int .i64 c])).run Try.prog w = .ok (.bool false) w := by
  go_simp
set_option maxHeartbeats 2000000 in
theorem sameGates_same (xs : List Gt) (ad ad' : Option Addr) (c c' : Nat) (w : World) (hm : xs.length ≤ 1048576) (hr : RdC w ad (gtCells xs)) (hr' : RdC w ad' (gtCells xs)) :
    Calls Try.prog 80 #[.slice ad xs.length c, .slice ad' xs.length c'] w fun e w' => e = .returned (.bool true) ∧ ∃ n, w' = w.drewN n := by
  go_enter Try.func80, Try.ntmps80
  go_wp2_with fail
  go_loopw [5] (fun i wr => ∃ k : Nat, k ≤ xs.length ∧ i = .int .i64 k ∧ ∃ m, wr = w.drewN m) (fun i _ => xs.length - (intOf i).toNat)
  case atStart => exact ⟨0, Nat.zero_le _, rfl, 0, rfl⟩
  case round =>
    obtain ⟨k, hk, rfl, m, hw⟩ := hrel
    have HW := Lib.hid hw
    by_cases hlt : k < xs.length
    · obtain ⟨b, off, kd, ga, gb, rfl, hbl, hx, c0, c1, c2⟩ := (show RdC wr ad (gtCells xs) from by rw [hw]; exact hr.drewN m).gt k hlt
      obtain ⟨b', off', kd', ga', gb', rfl, hbl', hx', d0, d1, d2⟩ := (show RdC wr ad' (gtCells xs) from by rw [hw]; exact hr'.drewN m).gt k hlt
      rw [hx] at hx'
      simp only [Option.some.injEq, Gt.mk.injEq] at hx'
      obtain ⟨rfl, rfl, rfl⟩ := hx'
      have hi : (k : Int) < (xs.length : Int) := by omega
      have HE := fun W => gt_neq_same W kd ga gb
      clear hr hr' hx hw
      go_wp2_with fail
      go_quiet (fail)
      go_wp2_with fail
      go_roundw
      case rel => exact ⟨k + 1, by omega, by go_num, m + nq, by rw [HW.out, World.drewN_drewN]⟩
      case measure => simp [intOf]; omega
    · clear hw
      go_wp2_with fail
      go_ret
      exact ⟨rfl, m, HW.out⟩
theorem sameInts_bel (xs : List Int) (n1 n2 : Nat) (h1 : xs.length = n1) (h2 : xs.length = n2) (ad ad' : Option Addr) (c c' : Nat) (w : World) (hm : xs.length ≤ 1048576) (hr : RdC w ad (I64 xs)) (hr' : RdC w ad' (I64 xs)) :
    Calls Try.prog 47 #[.slice ad n1 c, .slice ad' n2 c'] w fun e w' => e = .returned (.bool true) ∧ Below w.heap.size w w' :=
  (sameInts_same xs n1 n2 h1 h2 ad ad' c c' w hm hr hr').mono fun _ _ ⟨h, n, e⟩ => ⟨h, by rw [e]; exact below_drewN (Below.refl _ _) n⟩
set_option maxHeartbeats 2000000 in
theorem sameCircuit_same (xs : List Gt) (ys : List Int) (a1 a2 b1 b2 : Option Addr) (c1 c2 d1 d2 : Nat) (w : World) (hm : xs.length ≤ 1048576) (hm2 : ys.length ≤ 1048576) (hr : RdC w a1 (gtCells xs)) (hr2 : RdC w a2 (I64 ys)) (hs : RdC w b1 (gtCells xs)) (hs2 : RdC w b2 (I64 ys)) :
    Calls Try.prog 48 #[.agg #[.slice a1 xs.length c1, .slice a2 ys.length c2], .agg #[.slice b1 xs.length d1, .slice b2 ys.length d2]] w fun e w' => e = .returned (.bool true) ∧ Below w.heap.size w w' := by
  have HR := Lib.hid hr; have HR2 := Lib.hid hr2; have HS := Lib.hid hs; have HS2 := Lib.hid hs2
  clear hr hr2 hs hs2
  go_enter Try.func48, Try.ntmps48
  go_wp2_with fail
  refine (sameGates_same xs _ _ _ _ _ hm ((HR.out.keep fun b off e => ((Kp.refl _ _).alloc _).alloc _)) ((HS.out.keep fun b off e => ((Kp.refl _ _).alloc _).alloc _))).mono ?_
  rintro e _ ⟨rfl, n1, rfl⟩
  go_wp2_with fail
  refine (sameInts_same ys _ _ rfl rfl _ _ _ _ _ hm2 ((HR2.out.keep fun b off e => (((Kp.refl _ _).alloc _).alloc _).drewN _)) ((HS2.out.keep fun b off e => (((Kp.refl _ _).alloc _).alloc _).drewN _))).mono ?_
  rintro e _ ⟨rfl, n2, rfl⟩
  go_wp2_with fail
  go_ret
  exact ⟨rfl, (by (repeat (first | with_reducible exact Below.refl _ _ | (with_reducible refine bel_next ?_ ?_ (by assumption)) | (with_reducible refine Below.alloc ?_ ?_ _) | (with_reducible refine Below.drew ?_) | (with_reducible refine below_drewN ?_ _) | (with_reducible refine Below.setCell ?_ ?_ _))) <;> (first | omega | (simp; done) | (simp; omega)))⟩
end Go.Proofs.Ytfpblgbokmpmjaa

/- The walk of the law FnExactFormatProgram. -/
import Derived.Test.YtigefmobejclaaaDoorFmtP
import Derived.Test.YtigefmobejclaaaDoorStmtList
namespace Go.Proofs.YtigefmobejclaaaDoor
open Go.RowKit
set_option linter.unusedVariables false

set_option maxRecDepth 100000 in
set_option maxHeartbeats 4000000 in
theorem walk_FnExactFormatProgram (w : World) (ns0 : List Int) (n0 : Nat) (ad0 : Option Addr) (cap0 : Nat) (e0 : ns0.length = n0 * 6) (hm0 : n0 ≤ maxLen) (hr0 : RdC w ad0 (I64 ns0)) (hw : LaidW w) :
    Calls Tryd.prog 4 #[.slice ad0 n0 cap0] w fun e w' => e = .returned (.bool true) ∧ Below w.heap.size w w' := by
  obtain ⟨xs0, hl0, hx0⟩ := st_of_ints n0 ns0 e0
  rw [← hx0] at hr0
  subst hl0
  clear e0 hx0 ns0
  have hmm := hm0
  unfold maxLen at hm0
  have HR := Lib.hid hr0
  have HW := Lib.hid hw
  clear hr0 hw
  by_cases hsz : xs0.length ≤ 1048576
  case neg =>
    have hsz' : ¬ ((xs0.length : Int) ≤ 1048576) := by omega
    go_enter Tryd.func4, Tryd.ntmps4
    go_wp2_with fail
    refine (szStmtS_any xs0.length _ _ 1048576 _ hmm (by omega) (by omega)).mono ?_
    rintro e _ ⟨rfl, rfl⟩
    rw [if_neg (show ¬ ((xs0.length : Int) ≤ 1048576) by omega)]
    go_wp2_with fail
    go_ret
    exact ⟨rfl, Below.refl _ _⟩
  have hsz' : (xs0.length : Int) ≤ 1048576 := by omega
  have HS := Lib.hid (fun W a c h => sFormatProgram_any xs0 a c W hmm h)
  have HI := Lib.hid (fun W a c h h2 => iFormatProgram_any xs0 a c W hmm h h2)
  obtain ⟨t, ht⟩ : ∃ t, t = bA (progO xs0) := ⟨_, rfl⟩
  obtain ⟨b, hb⟩ : ∃ b, b = progOk xs0 := ⟨_, rfl⟩
  rw [← ht, ← hb] at HS HI
  clear ht hb
  go_enter Tryd.func4, Tryd.ntmps4
  go_wp2_with fail
  refine (szStmtS_any xs0.length _ _ 1048576 _ hmm (by omega) (by omega)).mono ?_
  rintro e _ ⟨rfl, rfl⟩
  rw [if_pos (show (xs0.length : Int) ≤ 1048576 by omega)]
  go_wp2_with fail
  refine (toStmtS_any xs0 _ _ _ hsz (HR.out.below (by (repeat (first | with_reducible exact Below.refl _ _ | (with_reducible refine bel_next ?_ ?_ (by assumption)) | (with_reducible refine Below.alloc ?_ ?_ _) | (with_reducible refine Below.drew ?_) | (with_reducible refine below_drewN ?_ _) | (with_reducible refine Below.setCell ?_ ?_ _))) <;> (first | omega | (simp; done) | (simp; omega))))).mono ?_
  rintro e w2 ⟨g2, rfl, ho2, lo2, hi2, hb2⟩
  have z2 := hb2.size
  try simp at z2
  have hi2 : Ins (some ⟨g2, 0, none⟩) _ _ := ho2.ins
  go_wp2_with fail
  refine (HS.out _ _ _ (ho2.keep (fun a ha => (by have hh := hi2 a ha; exact (by (repeat (first | with_reducible exact Kp.refl _ _ | (with_reducible refine Kp.below ?_ (by assumption)) | (with_reducible refine Kp.rng ?_ (by assumption) ?_) | (with_reducible refine Kp.alloc ?_ _) | (with_reducible refine Kp.drew ?_) | (with_reducible refine Kp.drewN ?_ _) | (with_reducible refine Kp.setCell ?_ _ ?_))) <;> (first | omega | (simp; done) | (simp; omega)))))).rd).mono ?_
  rintro e w3 ⟨rfl, hb3⟩
  have z3 := hb3.size
  try simp at z3
  go_wp2_with fail
  refine (toStmtS_any xs0 _ _ _ hsz (HR.out.below (by (repeat (first | with_reducible exact Below.refl _ _ | (with_reducible refine bel_next ?_ ?_ (by assumption)) | (with_reducible refine Below.alloc ?_ ?_ _) | (with_reducible refine Below.drew ?_) | (with_reducible refine below_drewN ?_ _) | (with_reducible refine Below.setCell ?_ ?_ _))) <;> (first | omega | (simp; done) | (simp; omega))))).mono ?_
  rintro e w4 ⟨g4, rfl, ho4, lo4, hi4, hb4⟩
  have z4 := hb4.size
  try simp at z4
  have hi4 : Ins (some ⟨g4, 0, none⟩) _ _ := ho4.ins
  go_wp2_with fail
  refine (HI.out _ _ _ (ho4.keep (fun a ha => (by have hh := hi4 a ha; exact (by (repeat (first | with_reducible exact Kp.refl _ _ | (with_reducible refine Kp.below ?_ (by assumption)) | (with_reducible refine Kp.rng ?_ (by assumption) ?_) | (with_reducible refine Kp.alloc ?_ _) | (with_reducible refine Kp.drew ?_) | (with_reducible refine Kp.drewN ?_ _) | (with_reducible refine Kp.setCell ?_ _ ?_))) <;> (first | omega | (simp; done) | (simp; omega)))))).rd (HW.out.below (by (repeat (first | with_reducible exact Below.refl _ _ | (with_reducible refine bel_next ?_ ?_ (by assumption)) | (with_reducible refine Below.alloc ?_ ?_ _) | (with_reducible refine Below.drew ?_) | (with_reducible refine below_drewN ?_ _) | (with_reducible refine Below.setCell ?_ ?_ _))) <;> (first | omega | (simp; done) | (simp; omega))))).mono ?_
  rintro e w5 ⟨rfl, hb5⟩
  have z5 := hb5.size
  try simp at z5
  go_wp2_with fail
  refine (toStmtS_any xs0 _ _ _ hsz (HR.out.below (by (repeat (first | with_reducible exact Below.refl _ _ | (with_reducible refine bel_next ?_ ?_ (by assumption)) | (with_reducible refine Below.alloc ?_ ?_ _) | (with_reducible refine Below.drew ?_) | (with_reducible refine below_drewN ?_ _) | (with_reducible refine Below.setCell ?_ ?_ _))) <;> (first | omega | (simp; done) | (simp; omega))))).mono ?_
  rintro e w7 ⟨g7, rfl, ho7, lo7, hi7, hb7⟩
  have z7 := hb7.size
  try simp at z7
  have hi7 : Ins (some ⟨g7, 0, none⟩) _ _ := ho7.ins
  go_wp2_with fail
  refine (eqStmtS_same xs0 _ _ _ _ _ hsz (ho4.keep (fun a ha => (by have hh := hi4 a ha; exact (by (repeat (first | with_reducible exact Kp.refl _ _ | (with_reducible refine Kp.below ?_ (by assumption)) | (with_reducible refine Kp.rng ?_ (by assumption) ?_) | (with_reducible refine Kp.alloc ?_ _) | (with_reducible refine Kp.drew ?_) | (with_reducible refine Kp.drewN ?_ _) | (with_reducible refine Kp.setCell ?_ _ ?_))) <;> (first | omega | (simp; done) | (simp; omega)))))).rd (ho7.keep (fun a ha => (by have hh := hi7 a ha; exact (by (repeat (first | with_reducible exact Kp.refl _ _ | (with_reducible refine Kp.below ?_ (by assumption)) | (with_reducible refine Kp.rng ?_ (by assumption) ?_) | (with_reducible refine Kp.alloc ?_ _) | (with_reducible refine Kp.drew ?_) | (with_reducible refine Kp.drewN ?_ _) | (with_reducible refine Kp.setCell ?_ _ ?_))) <;> (first | omega | (simp; done) | (simp; omega)))))).rd).mono ?_
  rintro e w8 ⟨rfl, hb8⟩
  have z8 := hb8.size
  try simp at z8
  go_wp2_with fail
  go_ret
  exact ⟨rfl, (by (repeat (first | with_reducible exact Below.refl _ _ | (with_reducible refine bel_next ?_ ?_ (by assumption)) | (with_reducible refine Below.alloc ?_ ?_ _) | (with_reducible refine Below.drew ?_) | (with_reducible refine below_drewN ?_ _) | (with_reducible refine Below.setCell ?_ ?_ _))) <;> (first | omega | (simp; done) | (simp; omega)))⟩
end Go.Proofs.YtigefmobejclaaaDoor

/- The walk of the law FnExactOutputDeps. -/
import Derived.Test.YtfeffofoofmgcaaDeps
import Derived.Test.YtfeffofoofmgcaaStmtList
import Derived.Test.YtfeffofoofmgcaaOpen
namespace Go.Proofs.Ytfeffofoofmgcaa
open Go.RowKit
set_option linter.unusedVariables false

set_option maxHeartbeats 4000000 in
theorem walk_FnExactOutputDeps (w : World) (ns0 : List Int) (n0 : Nat) (ad0 : Option Addr) (cap0 : Nat) (e0 : ns0.length = n0 * 6) (hm0 : n0 ≤ maxLen) (hr0 : RdC w ad0 (I64 ns0)) :
    Calls Try.prog 10 #[.slice ad0 n0 cap0] w fun e w' => e = .returned (.bool true) ∧ Below w.heap.size w w' := by
  obtain ⟨xs0, hl0, hx0⟩ := st_of_ints n0 ns0 e0
  rw [← hx0] at hr0
  subst hl0
  clear e0 hx0 ns0
  have hmm := hm0
  unfold maxLen at hm0
  by_cases hsz : xs0.length ≤ 1048576
  case neg =>
    have hsz' : ¬ ((xs0.length : Int) ≤ 1048576) := by omega
    go_enter Try.func10, Try.ntmps10
    go_wp2_with fail
    refine (szStmtS_any xs0.length _ _ 1048576 _ hmm (by omega) (by omega)).mono ?_
    rintro e _ ⟨rfl, rfl⟩
    rw [if_neg (show ¬ ((xs0.length : Int) ≤ 1048576) by omega)]
    go_wp2_with fail
    go_ret
    exact ⟨rfl, Below.refl _ _⟩
  have hsz' : (xs0.length : Int) ≤ 1048576 := by omega
  obtain ⟨us0, ok0, hv0⟩ := unr_ex xs0
  obtain ⟨D, hD⟩ : ∃ D, D = outDeps us0 ok0 := ⟨_, rfl⟩
  have hF : D.length ≤ 1048576 := by rw [hD]; have := (flowF_len us0 us0.length).2; have := unr_len hv0; cases ok0 <;> simp [outDeps] <;> simp at * <;> omega
  have HD := Lib.hid hD
  have HV := Lib.hid hv0
  clear hv0 hD
  cases ok0
  all_goals
    go_enter Try.func10, Try.ntmps10
    go_wp2_with fail
    refine (szStmtS_any xs0.length _ _ 1048576 _ hmm (by omega) (by omega)).mono ?_
    rintro e _ ⟨rfl, rfl⟩
    rw [if_pos (show (xs0.length : Int) ≤ 1048576 by omega)]
    go_wp2_with fail
    refine (toStmtS_any xs0 _ _ _ hsz (hr0.below (by (repeat (first | with_reducible exact Below.refl _ _ | (with_reducible refine bel_next ?_ ?_ (by assumption)) | (with_reducible refine Below.alloc ?_ ?_ _) | (with_reducible refine Below.drew ?_) | (with_reducible refine below_drewN ?_ _) | (with_reducible refine Below.setCell ?_ ?_ _))) <;> (first | omega | (simp; done) | (simp; omega))))).mono ?_
    rintro e w2 ⟨g2, rfl, ho2, lo2, hi2, hb2⟩
    have z2 := hb2.size
    try simp at z2
    have hi2 : Ins (some ⟨g2, 0, none⟩) _ _ := ho2.ins
    go_wp2_with fail
    refine (sOutputDeps_any xs0 us0 _ HV.out _ _ _ hmm (Nat.le_refl _) hmm (ho2.keep (fun a ha => (by have hh := hi2 a ha; exact (by (repeat (first | with_reducible exact Kp.refl _ _ | (with_reducible refine Kp.below ?_ (by assumption)) | (with_reducible refine Kp.rng ?_ (by assumption) ?_) | (with_reducible refine Kp.alloc ?_ _) | (with_reducible refine Kp.drew ?_) | (with_reducible refine Kp.drewN ?_ _) | (with_reducible refine Kp.setCell ?_ _ ?_))) <;> (first | omega | (simp; done) | (simp; omega)))))).rd).mono ?_
    rintro e w3 ⟨a3, c3, rfl, ho3, hb3⟩
    have z3 := hb3.size
    try simp at z3
    rw [← HD.out] at ho3
    rw [← HD.out]
    have hi3 : Ins a3 _ _ := ho3.ins
    go_wp2_with fail
    refine (toStmtS_any xs0 _ _ _ hsz (hr0.below (by (repeat (first | with_reducible exact Below.refl _ _ | (with_reducible refine bel_next ?_ ?_ (by assumption)) | (with_reducible refine Below.alloc ?_ ?_ _) | (with_reducible refine Below.drew ?_) | (with_reducible refine below_drewN ?_ _) | (with_reducible refine Below.setCell ?_ ?_ _))) <;> (first | omega | (simp; done) | (simp; omega))))).mono ?_
    rintro e w4 ⟨g4, rfl, ho4, lo4, hi4, hb4⟩
    have z4 := hb4.size
    try simp at z4
    have hi4 : Ins (some ⟨g4, 0, none⟩) _ _ := ho4.ins
    go_wp2_with fail
    refine (iOutputDeps_any xs0 us0 _ HV.out _ _ _ hmm (Nat.le_refl _) hmm (ho4.keep (fun a ha => (by have hh := hi4 a ha; exact (by (repeat (first | with_reducible exact Kp.refl _ _ | (with_reducible refine Kp.below ?_ (by assumption)) | (with_reducible refine Kp.rng ?_ (by assumption) ?_) | (with_reducible refine Kp.alloc ?_ _) | (with_reducible refine Kp.drew ?_) | (with_reducible refine Kp.drewN ?_ _) | (with_reducible refine Kp.setCell ?_ _ ?_))) <;> (first | omega | (simp; done) | (simp; omega)))))).rd).mono ?_
    rintro e w5 ⟨a5, c5, rfl, ho5, hb5⟩
    have z5 := hb5.size
    try simp at z5
    rw [← HD.out] at ho5
    rw [← HD.out]
    have hi5 : Ins a5 _ _ := ho5.ins
    go_wp2_with fail
    refine (eqIntS_same D _ _ _ _ _ hF (ho5.keep (fun a ha => (by have hh := hi5 a ha; exact (by (repeat (first | with_reducible exact Kp.refl _ _ | (with_reducible refine Kp.below ?_ (by assumption)) | (with_reducible refine Kp.rng ?_ (by assumption) ?_) | (with_reducible refine Kp.alloc ?_ _) | (with_reducible refine Kp.drew ?_) | (with_reducible refine Kp.drewN ?_ _) | (with_reducible refine Kp.setCell ?_ _ ?_))) <;> (first | omega | (simp; done) | (simp; omega)))))).rd (ho3.keep (fun a ha => (by have hh := hi3 a ha; exact (by (repeat (first | with_reducible exact Kp.refl _ _ | (with_reducible refine Kp.below ?_ (by assumption)) | (with_reducible refine Kp.rng ?_ (by assumption) ?_) | (with_reducible refine Kp.alloc ?_ _) | (with_reducible refine Kp.drew ?_) | (with_reducible refine Kp.drewN ?_ _) | (with_reducible refine Kp.setCell ?_ _ ?_))) <;> (first | omega | (simp; done) | (simp; omega)))))).rd).mono ?_
    rintro e _ ⟨rfl, m6, rfl⟩
    go_wp2_with fail
    refine (toStmtS_any xs0 _ _ _ hsz (hr0.below (by (repeat (first | with_reducible exact Below.refl _ _ | (with_reducible refine bel_next ?_ ?_ (by assumption)) | (with_reducible refine Below.alloc ?_ ?_ _) | (with_reducible refine Below.drew ?_) | (with_reducible refine below_drewN ?_ _) | (with_reducible refine Below.setCell ?_ ?_ _))) <;> (first | omega | (simp; done) | (simp; omega))))).mono ?_
    rintro e w7 ⟨g7, rfl, ho7, lo7, hi7, hb7⟩
    have z7 := hb7.size
    try simp at z7
    have hi7 : Ins (some ⟨g7, 0, none⟩) _ _ := ho7.ins
    go_wp2_with fail
    refine (eqStmtS_same xs0 _ _ _ _ _ hsz (ho4.keep (fun a ha => (by have hh := hi4 a ha; exact (by (repeat (first | with_reducible exact Kp.refl _ _ | (with_reducible refine Kp.below ?_ (by assumption)) | (with_reducible refine Kp.rng ?_ (by assumption) ?_) | (with_reducible refine Kp.alloc ?_ _) | (with_reducible refine Kp.drew ?_) | (with_reducible refine Kp.drewN ?_ _) | (with_reducible refine Kp.setCell ?_ _ ?_))) <;> (first | omega | (simp; done) | (simp; omega)))))).rd (ho7.keep (fun a ha => (by have hh := hi7 a ha; exact (by (repeat (first | with_reducible exact Kp.refl _ _ | (with_reducible refine Kp.below ?_ (by assumption)) | (with_reducible refine Kp.rng ?_ (by assumption) ?_) | (with_reducible refine Kp.alloc ?_ _) | (with_reducible refine Kp.drew ?_) | (with_reducible refine Kp.drewN ?_ _) | (with_reducible refine Kp.setCell ?_ _ ?_))) <;> (first | omega | (simp; done) | (simp; omega)))))).rd).mono ?_
    rintro e w8 ⟨rfl, hb8⟩
    have z8 := hb8.size
    try simp at z8
    go_wp2_with fail
    refine (markStmtS_rng xs0.length _ _ _ _ 1 _ _ _ (by omega) (by omega) hsz (ho4.keep (fun a ha => (by have hh := hi4 a ha; exact (by (repeat (first | with_reducible exact Kp.refl _ _ | (with_reducible refine Kp.below ?_ (by assumption)) | (with_reducible refine Kp.rng ?_ (by assumption) ?_) | (with_reducible refine Kp.alloc ?_ _) | (with_reducible refine Kp.drew ?_) | (with_reducible refine Kp.drewN ?_ _) | (with_reducible refine Kp.setCell ?_ _ ?_))) <;> (first | omega | (simp; done) | (simp; omega)))))) hi4 (by first | omega | (simp; done) | (simp; omega))).mono ?_
    rintro e w9 ⟨rfl, ho9, hb9, hr9⟩
    have z9 := hb9.size
    try simp at z9
    have hi9 := hi4
    go_wp2_with fail
    refine (eqIntS_same D _ _ _ _ _ hF (ho5.keep (fun a ha => (by have hh := hi5 a ha; exact (by (repeat (first | with_reducible exact Kp.refl _ _ | (with_reducible refine Kp.below ?_ (by assumption)) | (with_reducible refine Kp.rng ?_ (by assumption) ?_) | (with_reducible refine Kp.alloc ?_ _) | (with_reducible refine Kp.drew ?_) | (with_reducible refine Kp.drewN ?_ _) | (with_reducible refine Kp.setCell ?_ _ ?_))) <;> (first | omega | (simp; done) | (simp; omega)))))).rd (ho3.keep (fun a ha => (by have hh := hi3 a ha; exact (by (repeat (first | with_reducible exact Kp.refl _ _ | (with_reducible refine Kp.below ?_ (by assumption)) | (with_reducible refine Kp.rng ?_ (by assumption) ?_) | (with_reducible refine Kp.alloc ?_ _) | (with_reducible refine Kp.drew ?_) | (with_reducible refine Kp.drewN ?_ _) | (with_reducible refine Kp.setCell ?_ _ ?_))) <;> (first | omega | (simp; done) | (simp; omega)))))).rd).mono ?_
    rintro e _ ⟨rfl, m10, rfl⟩
    go_wp2_with fail
    refine (markIntS_rng D.length _ _ _ _ 1 _ _ _ (by omega) (by omega) hF (ho5.keep (fun a ha => (by have hh := hi5 a ha; exact (by (repeat (first | with_reducible exact Kp.refl _ _ | (with_reducible refine Kp.below ?_ (by assumption)) | (with_reducible refine Kp.rng ?_ (by assumption) ?_) | (with_reducible refine Kp.alloc ?_ _) | (with_reducible refine Kp.drew ?_) | (with_reducible refine Kp.drewN ?_ _) | (with_reducible refine Kp.setCell ?_ _ ?_))) <;> (first | omega | (simp; done) | (simp; omega)))))) hi5 (by first | omega | (simp; done) | (simp; omega))).mono ?_
    rintro e w11 ⟨rfl, ho11, hb11, hr11⟩
    have z11 := hb11.size
    try simp at z11
    have hi11 := hi5
    go_wp2_with fail
    refine (heldIntS_any D.length 1 _ _ _ (by omega) (by omega) hF (ho11.keep (fun a ha => (by have hh := hi11 a ha; exact (by (repeat (first | with_reducible exact Kp.refl _ _ | (with_reducible refine Kp.below ?_ (by assumption)) | (with_reducible refine Kp.rng ?_ (by assumption) ?_) | (with_reducible refine Kp.alloc ?_ _) | (with_reducible refine Kp.drew ?_) | (with_reducible refine Kp.drewN ?_ _) | (with_reducible refine Kp.setCell ?_ _ ?_))) <;> (first | omega | (simp; done) | (simp; omega)))))).rd).mono ?_
    rintro e _ ⟨rfl, rfl⟩
    go_wp2_with fail
    refine (toStmtS_any xs0 _ _ _ hsz (hr0.below (by (repeat (first | with_reducible exact Below.refl _ _ | (with_reducible refine bel_next ?_ ?_ (by assumption)) | (with_reducible refine Below.alloc ?_ ?_ _) | (with_reducible refine Below.drew ?_) | (with_reducible refine below_drewN ?_ _) | (with_reducible refine Below.setCell ?_ ?_ _))) <;> (first | omega | (simp; done) | (simp; omega))))).mono ?_
    rintro e w12 ⟨g12, rfl, ho12, lo12, hi12, hb12⟩
    have z12 := hb12.size
    try simp at z12
    have hi12 : Ins (some ⟨g12, 0, none⟩) _ _ := ho12.ins
    go_wp2_with fail
    refine (iOutputDeps_any xs0 us0 _ HV.out _ _ _ hmm (Nat.le_refl _) hmm (ho12.keep (fun a ha => (by have hh := hi12 a ha; exact (by (repeat (first | with_reducible exact Kp.refl _ _ | (with_reducible refine Kp.below ?_ (by assumption)) | (with_reducible refine Kp.rng ?_ (by assumption) ?_) | (with_reducible refine Kp.alloc ?_ _) | (with_reducible refine Kp.drew ?_) | (with_reducible refine Kp.drewN ?_ _) | (with_reducible refine Kp.setCell ?_ _ ?_))) <;> (first | omega | (simp; done) | (simp; omega)))))).rd).mono ?_
    rintro e w13 ⟨a13, c13, rfl, ho13, hb13⟩
    have z13 := hb13.size
    try simp at z13
    rw [← HD.out] at ho13
    rw [← HD.out]
    have hi13 : Ins a13 _ _ := ho13.ins
    go_wp2_with fail
    refine (eqIntS_same D _ _ _ _ _ hF (ho13.keep (fun a ha => (by have hh := hi13 a ha; exact (by (repeat (first | with_reducible exact Kp.refl _ _ | (with_reducible refine Kp.below ?_ (by assumption)) | (with_reducible refine Kp.rng ?_ (by assumption) ?_) | (with_reducible refine Kp.alloc ?_ _) | (with_reducible refine Kp.drew ?_) | (with_reducible refine Kp.drewN ?_ _) | (with_reducible refine Kp.setCell ?_ _ ?_))) <;> (first | omega | (simp; done) | (simp; omega)))))).rd (ho3.keep (fun a ha => (by have hh := hi3 a ha; exact (by (repeat (first | with_reducible exact Kp.refl _ _ | (with_reducible refine Kp.below ?_ (by assumption)) | (with_reducible refine Kp.rng ?_ (by assumption) ?_) | (with_reducible refine Kp.alloc ?_ _) | (with_reducible refine Kp.drew ?_) | (with_reducible refine Kp.drewN ?_ _) | (with_reducible refine Kp.setCell ?_ _ ?_))) <;> (first | omega | (simp; done) | (simp; omega)))))).rd).mono ?_
    rintro e _ ⟨rfl, m14, rfl⟩
    go_wp2_with fail
    refine (heldIntS_any D.length 1 _ _ _ (by omega) (by omega) hF (ho11.keep (fun a ha => (by have hh := hi11 a ha; exact (by (repeat (first | with_reducible exact Kp.refl _ _ | (with_reducible refine Kp.below ?_ (by assumption)) | (with_reducible refine Kp.rng ?_ (by assumption) ?_) | (with_reducible refine Kp.alloc ?_ _) | (with_reducible refine Kp.drew ?_) | (with_reducible refine Kp.drewN ?_ _) | (with_reducible refine Kp.setCell ?_ _ ?_))) <;> (first | omega | (simp; done) | (simp; omega)))))).rd).mono ?_
    rintro e _ ⟨rfl, rfl⟩
    go_wp2_with fail
    go_ret
    exact ⟨rfl, (by (repeat (first | with_reducible exact Below.refl _ _ | (with_reducible refine bel_next ?_ ?_ (by assumption)) | (with_reducible refine Below.alloc ?_ ?_ _) | (with_reducible refine Below.drew ?_) | (with_reducible refine below_drewN ?_ _) | (with_reducible refine Below.setCell ?_ ?_ _))) <;> (first | omega | (simp; done) | (simp; omega)))⟩
end Go.Proofs.Ytfeffofoofmgcaa

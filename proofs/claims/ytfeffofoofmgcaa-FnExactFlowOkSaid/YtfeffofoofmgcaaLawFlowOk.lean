/- The walk of the law FnExactFlowOk. -/
import Derived.Test.YtfeffofoofmgcaaFlowOk
import Derived.Test.YtfeffofoofmgcaaStmtList
import Derived.Test.YtfeffofoofmgcaaOpen
namespace Go.Proofs.Ytfeffofoofmgcaa
open Go.RowKit
set_option linter.unusedVariables false

set_option maxHeartbeats 4000000 in
theorem walk_FnExactFlowOk (w : World) (ns0 : List Int) (n0 : Nat) (ad0 : Option Addr) (cap0 : Nat) (e0 : ns0.length = n0 * 6) (hm0 : n0 ≤ maxLen) (hr0 : RdC w ad0 (I64 ns0)) (xs1 : List Int) (ad1 : Option Addr) (cap1 : Nat) (hm1 : xs1.length ≤ maxLen) (hr1 : RdC w ad1 (I64 xs1)) :
    Calls Try.prog 9 #[.slice ad0 n0 cap0, .slice ad1 xs1.length cap1] w fun e w' => e = .returned (.bool true) ∧ Below w.heap.size w w' := by
  obtain ⟨xs0, hl0, hx0⟩ := st_of_ints n0 ns0 e0
  rw [← hx0] at hr0
  subst hl0
  clear e0 hx0 ns0
  have hmm := hm0
  unfold maxLen at hm0
  have hmm1 := hm1
  unfold maxLen at hm1
  by_cases hs1 : xs1.length ≤ 1048576
  case neg =>
    have hs1' : (1048576 : Int) < xs1.length := by omega
    go_enter Try.func9, Try.ntmps9
    go_wp2_with fail
    go_ret
    exact ⟨rfl, Below.refl _ _⟩
  have hs1' : (xs1.length : Int) ≤ 1048576 := by omega
  by_cases hsz : xs0.length ≤ 1048576
  case neg =>
    have hsz' : ¬ ((xs0.length : Int) ≤ 1048576) := by omega
    go_enter Try.func9, Try.ntmps9
    go_wp2_with fail
    refine (szStmtS_any xs0.length _ _ 1048576 _ hmm (by omega) (by omega)).mono ?_
    rintro e _ ⟨rfl, rfl⟩
    rw [if_neg (show ¬ ((xs0.length : Int) ≤ 1048576) by omega)]
    go_wp2_with fail
    go_ret
    exact ⟨rfl, Below.refl _ _⟩
  have hsz' : (xs0.length : Int) ≤ 1048576 := by omega
  obtain ⟨us0, ok0, hv0⟩ := unr_ex xs0
  have HV := Lib.hid hv0
  clear hv0
  go_enter Try.func9, Try.ntmps9
  go_wp2_with fail
  refine (szStmtS_any xs0.length _ _ 1048576 _ hmm (by omega) (by omega)).mono ?_
  rintro e _ ⟨rfl, rfl⟩
  rw [if_pos (show (xs0.length : Int) ≤ 1048576 by omega)]
  go_wp2_with fail
  refine (toStmtS_any xs0 _ _ _ hsz (hr0.below (by (repeat (first | with_reducible exact Below.refl _ _ | (with_reducible refine bel_next ?_ ?_ (by assumption)) | (with_reducible refine Below.alloc ?_ ?_ _) | (with_reducible refine Below.drew ?_) | (with_reducible refine below_drewN ?_ _) | (with_reducible refine Below.setCell ?_ ?_ _))) <;> (first | omega | (simp; done) | (simp; omega))))).mono ?_
  rintro e w2 ⟨g2, rfl, ho2, lo2, hi2, hb2⟩
  have z2 := hb2.size
  try simp at z2
  have hi2 : Ins (some ⟨g2, 0, none⟩) _ _ := ho2.ins
  go_wp2_with fail
  refine (toIntS_own xs1 _ _ _ hs1 (hr1.below (by (repeat (first | with_reducible exact Below.refl _ _ | (with_reducible refine bel_next ?_ ?_ (by assumption)) | (with_reducible refine Below.alloc ?_ ?_ _) | (with_reducible refine Below.drew ?_) | (with_reducible refine below_drewN ?_ _) | (with_reducible refine Below.setCell ?_ ?_ _))) <;> (first | omega | (simp; done) | (simp; omega))))).mono ?_
  rintro e w3 ⟨g3, rfl, ho3, lo3, hi3, hb3⟩
  have z3 := hb3.size
  try simp at z3
  have hi3 : Ins (some ⟨g3, 0, none⟩) _ _ := ho3.ins
  go_wp2_with fail
  refine (sFlowOk_any xs0 us0 _ HV.out _ _ xs1 _ _ _ hmm (Nat.le_refl _) hmm (ho2.keep (fun a ha => (by have hh := hi2 a ha; exact (by (repeat (first | with_reducible exact Kp.refl _ _ | (with_reducible refine Kp.below ?_ (by assumption)) | (with_reducible refine Kp.rng ?_ (by assumption) ?_) | (with_reducible refine Kp.alloc ?_ _) | (with_reducible refine Kp.drew ?_) | (with_reducible refine Kp.drewN ?_ _) | (with_reducible refine Kp.setCell ?_ _ ?_))) <;> (first | omega | (simp; done) | (simp; omega)))))).rd hmm1 (ho3.keep (fun a ha => (by have hh := hi3 a ha; exact (by (repeat (first | with_reducible exact Kp.refl _ _ | (with_reducible refine Kp.below ?_ (by assumption)) | (with_reducible refine Kp.rng ?_ (by assumption) ?_) | (with_reducible refine Kp.alloc ?_ _) | (with_reducible refine Kp.drew ?_) | (with_reducible refine Kp.drewN ?_ _) | (with_reducible refine Kp.setCell ?_ _ ?_))) <;> (first | omega | (simp; done) | (simp; omega)))))).rd).mono ?_
  rintro e w4 ⟨rfl, hb4⟩
  have z4 := hb4.size
  try simp at z4
  go_wp2_with fail
  refine (toStmtS_any xs0 _ _ _ hsz (hr0.below (by (repeat (first | with_reducible exact Below.refl _ _ | (with_reducible refine bel_next ?_ ?_ (by assumption)) | (with_reducible refine Below.alloc ?_ ?_ _) | (with_reducible refine Below.drew ?_) | (with_reducible refine below_drewN ?_ _) | (with_reducible refine Below.setCell ?_ ?_ _))) <;> (first | omega | (simp; done) | (simp; omega))))).mono ?_
  rintro e w5 ⟨g5, rfl, ho5, lo5, hi5, hb5⟩
  have z5 := hb5.size
  try simp at z5
  have hi5 : Ins (some ⟨g5, 0, none⟩) _ _ := ho5.ins
  go_wp2_with fail
  refine (toIntS_own xs1 _ _ _ hs1 (hr1.below (by (repeat (first | with_reducible exact Below.refl _ _ | (with_reducible refine bel_next ?_ ?_ (by assumption)) | (with_reducible refine Below.alloc ?_ ?_ _) | (with_reducible refine Below.drew ?_) | (with_reducible refine below_drewN ?_ _) | (with_reducible refine Below.setCell ?_ ?_ _))) <;> (first | omega | (simp; done) | (simp; omega))))).mono ?_
  rintro e w6 ⟨g6, rfl, ho6, lo6, hi6, hb6⟩
  have z6 := hb6.size
  try simp at z6
  have hi6 : Ins (some ⟨g6, 0, none⟩) _ _ := ho6.ins
  go_wp2_with fail
  refine (iFlowOk_any xs0 us0 _ HV.out _ _ xs1 _ _ _ hmm (Nat.le_refl _) hmm (ho5.keep (fun a ha => (by have hh := hi5 a ha; exact (by (repeat (first | with_reducible exact Kp.refl _ _ | (with_reducible refine Kp.below ?_ (by assumption)) | (with_reducible refine Kp.rng ?_ (by assumption) ?_) | (with_reducible refine Kp.alloc ?_ _) | (with_reducible refine Kp.drew ?_) | (with_reducible refine Kp.drewN ?_ _) | (with_reducible refine Kp.setCell ?_ _ ?_))) <;> (first | omega | (simp; done) | (simp; omega)))))).rd hmm1 (ho6.keep (fun a ha => (by have hh := hi6 a ha; exact (by (repeat (first | with_reducible exact Kp.refl _ _ | (with_reducible refine Kp.below ?_ (by assumption)) | (with_reducible refine Kp.rng ?_ (by assumption) ?_) | (with_reducible refine Kp.alloc ?_ _) | (with_reducible refine Kp.drew ?_) | (with_reducible refine Kp.drewN ?_ _) | (with_reducible refine Kp.setCell ?_ _ ?_))) <;> (first | omega | (simp; done) | (simp; omega)))))).rd).mono ?_
  rintro e w7 ⟨rfl, hb7⟩
  have z7 := hb7.size
  try simp at z7
  go_wp2_with fail
  refine (toStmtS_any xs0 _ _ _ hsz (hr0.below (by (repeat (first | with_reducible exact Below.refl _ _ | (with_reducible refine bel_next ?_ ?_ (by assumption)) | (with_reducible refine Below.alloc ?_ ?_ _) | (with_reducible refine Below.drew ?_) | (with_reducible refine below_drewN ?_ _) | (with_reducible refine Below.setCell ?_ ?_ _))) <;> (first | omega | (simp; done) | (simp; omega))))).mono ?_
  rintro e w8 ⟨g8, rfl, ho8, lo8, hi8, hb8⟩
  have z8 := hb8.size
  try simp at z8
  have hi8 : Ins (some ⟨g8, 0, none⟩) _ _ := ho8.ins
  go_wp2_with fail
  refine (eqStmtS_same xs0 _ _ _ _ _ hsz (ho5.keep (fun a ha => (by have hh := hi5 a ha; exact (by (repeat (first | with_reducible exact Kp.refl _ _ | (with_reducible refine Kp.below ?_ (by assumption)) | (with_reducible refine Kp.rng ?_ (by assumption) ?_) | (with_reducible refine Kp.alloc ?_ _) | (with_reducible refine Kp.drew ?_) | (with_reducible refine Kp.drewN ?_ _) | (with_reducible refine Kp.setCell ?_ _ ?_))) <;> (first | omega | (simp; done) | (simp; omega)))))).rd (ho8.keep (fun a ha => (by have hh := hi8 a ha; exact (by (repeat (first | with_reducible exact Kp.refl _ _ | (with_reducible refine Kp.below ?_ (by assumption)) | (with_reducible refine Kp.rng ?_ (by assumption) ?_) | (with_reducible refine Kp.alloc ?_ _) | (with_reducible refine Kp.drew ?_) | (with_reducible refine Kp.drewN ?_ _) | (with_reducible refine Kp.setCell ?_ _ ?_))) <;> (first | omega | (simp; done) | (simp; omega)))))).rd).mono ?_
  rintro e w9 ⟨rfl, hb9⟩
  have z9 := hb9.size
  try simp at z9
  go_wp2_with fail
  refine (toIntS_own xs1 _ _ _ hs1 (hr1.below (by (repeat (first | with_reducible exact Below.refl _ _ | (with_reducible refine bel_next ?_ ?_ (by assumption)) | (with_reducible refine Below.alloc ?_ ?_ _) | (with_reducible refine Below.drew ?_) | (with_reducible refine below_drewN ?_ _) | (with_reducible refine Below.setCell ?_ ?_ _))) <;> (first | omega | (simp; done) | (simp; omega))))).mono ?_
  rintro e w10 ⟨g10, rfl, ho10, lo10, hi10, hb10⟩
  have z10 := hb10.size
  try simp at z10
  have hi10 : Ins (some ⟨g10, 0, none⟩) _ _ := ho10.ins
  go_wp2_with fail
  refine (eqIntS_same xs1 _ _ _ _ _ hs1 (ho6.keep (fun a ha => (by have hh := hi6 a ha; exact (by (repeat (first | with_reducible exact Kp.refl _ _ | (with_reducible refine Kp.below ?_ (by assumption)) | (with_reducible refine Kp.rng ?_ (by assumption) ?_) | (with_reducible refine Kp.alloc ?_ _) | (with_reducible refine Kp.drew ?_) | (with_reducible refine Kp.drewN ?_ _) | (with_reducible refine Kp.setCell ?_ _ ?_))) <;> (first | omega | (simp; done) | (simp; omega)))))).rd (ho10.keep (fun a ha => (by have hh := hi10 a ha; exact (by (repeat (first | with_reducible exact Kp.refl _ _ | (with_reducible refine Kp.below ?_ (by assumption)) | (with_reducible refine Kp.rng ?_ (by assumption) ?_) | (with_reducible refine Kp.alloc ?_ _) | (with_reducible refine Kp.drew ?_) | (with_reducible refine Kp.drewN ?_ _) | (with_reducible refine Kp.setCell ?_ _ ?_))) <;> (first | omega | (simp; done) | (simp; omega)))))).rd).mono ?_
  rintro e _ ⟨rfl, m11, rfl⟩
  go_wp2_with fail
  go_ret
  exact ⟨rfl, (by (repeat (first | with_reducible exact Below.refl _ _ | (with_reducible refine bel_next ?_ ?_ (by assumption)) | (with_reducible refine Below.alloc ?_ ?_ _) | (with_reducible refine Below.drew ?_) | (with_reducible refine below_drewN ?_ _) | (with_reducible refine Below.setCell ?_ ?_ _))) <;> (first | omega | (simp; done) | (simp; omega)))⟩
end Go.Proofs.Ytfeffofoofmgcaa

/- The walk of the law on WordsOf. -/
import Derived.Test.YtnipfbgmafknfaaWordsOf
import Derived.Test.YtnipfbgmafknfaaOpen
namespace Go.Proofs.Ytnipfbgmafknfaa
open Go.RowKit

theorem wordsOf_le (xs : List Int) (h : xs.length ≤ 1048576) : (wordsOf xs).length ≤ 1048576 := by
  unfold wordsOf; split
  · have := words_len xs; omega
  · simp

set_option maxHeartbeats 4000000 in
theorem walk_FnExactWordsOf (w : World) (xs0 : List Int) (ad0 : Option Addr) (cap0 : Nat) (hm0 : xs0.length ≤ maxLen) (hr0 : RdC w ad0 (I64 xs0)) :
    Calls Try.prog 7 #[.slice ad0 xs0.length cap0] w fun e w' => e = .returned (.bool true) ∧ Below w.heap.size w w' := by
  unfold maxLen at hm0
  by_cases hsz : xs0.length ≤ 1048576
  · have hF := wordsOf_le xs0 hsz
    go_enter Try.func7, Try.ntmps7
    go_wp2_with fail
    refine (toIntS_own xs0 _ _ _ hsz (hr0.below (by (repeat (first | with_reducible exact Below.refl _ _ | (with_reducible refine bel_next ?_ ?_ (by assumption)) | (with_reducible refine Below.alloc ?_ ?_ _) | (with_reducible refine Below.drew ?_) | (with_reducible refine below_drewN ?_ _) | (with_reducible refine Below.setCell ?_ ?_ _))) <;> (first | omega | (simp; done) | (simp; omega))))).mono ?_
    rintro e w1 ⟨g1, rfl, ho1, lo1, hi1, hb1⟩
    have z1 := hb1.size
    try simp at z1
    have hi1 : Ins (some ⟨g1, 0, none⟩) _ _ := ho1.ins
    go_wp2_with fail
    refine (sWordsOf_any xs0 _ _ _ hsz (ho1.keep (fun a ha => (by have hh := hi1 a ha; exact (by (repeat (first | with_reducible exact Kp.refl _ _ | (with_reducible refine Kp.below ?_ (by assumption)) | (with_reducible refine Kp.rng ?_ (by assumption) ?_) | (with_reducible refine Kp.alloc ?_ _) | (with_reducible refine Kp.drew ?_) | (with_reducible refine Kp.drewN ?_ _) | (with_reducible refine Kp.setCell ?_ _ ?_))) <;> (first | omega | (simp; done) | (simp; omega)))))).rd).mono ?_
    rintro e w2 ⟨a2, c2, rfl, ho2, hb2⟩
    have z2 := hb2.size
    try simp at z2
    have hi2 : Ins a2 _ _ := ho2.ins
    go_wp2_with fail
    refine (toIntS_own xs0 _ _ _ hsz (hr0.below (by (repeat (first | with_reducible exact Below.refl _ _ | (with_reducible refine bel_next ?_ ?_ (by assumption)) | (with_reducible refine Below.alloc ?_ ?_ _) | (with_reducible refine Below.drew ?_) | (with_reducible refine below_drewN ?_ _) | (with_reducible refine Below.setCell ?_ ?_ _))) <;> (first | omega | (simp; done) | (simp; omega))))).mono ?_
    rintro e w3 ⟨g3, rfl, ho3, lo3, hi3, hb3⟩
    have z3 := hb3.size
    try simp at z3
    have hi3 : Ins (some ⟨g3, 0, none⟩) _ _ := ho3.ins
    go_wp2_with fail
    refine (iWordsOf_any xs0 _ _ _ hsz (ho3.keep (fun a ha => (by have hh := hi3 a ha; exact (by (repeat (first | with_reducible exact Kp.refl _ _ | (with_reducible refine Kp.below ?_ (by assumption)) | (with_reducible refine Kp.rng ?_ (by assumption) ?_) | (with_reducible refine Kp.alloc ?_ _) | (with_reducible refine Kp.drew ?_) | (with_reducible refine Kp.drewN ?_ _) | (with_reducible refine Kp.setCell ?_ _ ?_))) <;> (first | omega | (simp; done) | (simp; omega)))))).rd).mono ?_
    rintro e w4 ⟨a4, c4, rfl, ho4, hb4⟩
    have z4 := hb4.size
    try simp at z4
    have hi4 : Ins a4 _ _ := ho4.ins
    go_wp2_with fail
    refine (eqIntS_same (wordsOf xs0) _ _ _ _ _ hF (ho4.keep (fun a ha => (by have hh := hi4 a ha; exact (by (repeat (first | with_reducible exact Kp.refl _ _ | (with_reducible refine Kp.below ?_ (by assumption)) | (with_reducible refine Kp.rng ?_ (by assumption) ?_) | (with_reducible refine Kp.alloc ?_ _) | (with_reducible refine Kp.drew ?_) | (with_reducible refine Kp.drewN ?_ _) | (with_reducible refine Kp.setCell ?_ _ ?_))) <;> (first | omega | (simp; done) | (simp; omega)))))).rd (ho2.keep (fun a ha => (by have hh := hi2 a ha; exact (by (repeat (first | with_reducible exact Kp.refl _ _ | (with_reducible refine Kp.below ?_ (by assumption)) | (with_reducible refine Kp.rng ?_ (by assumption) ?_) | (with_reducible refine Kp.alloc ?_ _) | (with_reducible refine Kp.drew ?_) | (with_reducible refine Kp.drewN ?_ _) | (with_reducible refine Kp.setCell ?_ _ ?_))) <;> (first | omega | (simp; done) | (simp; omega)))))).rd).mono ?_
    rintro e _ ⟨rfl, m5, rfl⟩
    go_wp2_with fail
    refine (toIntS_own xs0 _ _ _ hsz (hr0.below (by (repeat (first | with_reducible exact Below.refl _ _ | (with_reducible refine bel_next ?_ ?_ (by assumption)) | (with_reducible refine Below.alloc ?_ ?_ _) | (with_reducible refine Below.drew ?_) | (with_reducible refine below_drewN ?_ _) | (with_reducible refine Below.setCell ?_ ?_ _))) <;> (first | omega | (simp; done) | (simp; omega))))).mono ?_
    rintro e w6 ⟨g6, rfl, ho6, lo6, hi6, hb6⟩
    have z6 := hb6.size
    try simp at z6
    have hi6 : Ins (some ⟨g6, 0, none⟩) _ _ := ho6.ins
    go_wp2_with fail
    refine (eqIntS_same xs0 _ _ _ _ _ hsz (ho3.keep (fun a ha => (by have hh := hi3 a ha; exact (by (repeat (first | with_reducible exact Kp.refl _ _ | (with_reducible refine Kp.below ?_ (by assumption)) | (with_reducible refine Kp.rng ?_ (by assumption) ?_) | (with_reducible refine Kp.alloc ?_ _) | (with_reducible refine Kp.drew ?_) | (with_reducible refine Kp.drewN ?_ _) | (with_reducible refine Kp.setCell ?_ _ ?_))) <;> (first | omega | (simp; done) | (simp; omega)))))).rd (ho6.keep (fun a ha => (by have hh := hi6 a ha; exact (by (repeat (first | with_reducible exact Kp.refl _ _ | (with_reducible refine Kp.below ?_ (by assumption)) | (with_reducible refine Kp.rng ?_ (by assumption) ?_) | (with_reducible refine Kp.alloc ?_ _) | (with_reducible refine Kp.drew ?_) | (with_reducible refine Kp.drewN ?_ _) | (with_reducible refine Kp.setCell ?_ _ ?_))) <;> (first | omega | (simp; done) | (simp; omega)))))).rd).mono ?_
    rintro e _ ⟨rfl, m7, rfl⟩
    go_wp2_with fail
    refine (markIntS_rng xs0.length _ _ _ 1 _ _ _ (by omega) (by omega) hsz (ho3.keep (fun a ha => (by have hh := hi3 a ha; exact (by (repeat (first | with_reducible exact Kp.refl _ _ | (with_reducible refine Kp.below ?_ (by assumption)) | (with_reducible refine Kp.rng ?_ (by assumption) ?_) | (with_reducible refine Kp.alloc ?_ _) | (with_reducible refine Kp.drew ?_) | (with_reducible refine Kp.drewN ?_ _) | (with_reducible refine Kp.setCell ?_ _ ?_))) <;> (first | omega | (simp; done) | (simp; omega)))))) hi3 (by first | omega | (simp; done) | (simp; omega))).mono ?_
    rintro e w8 ⟨rfl, ho8, hb8, hr8⟩
    have z8 := hb8.size
    try simp at z8
    have hi8 := hi3
    go_wp2_with fail
    refine (eqIntS_same (wordsOf xs0) _ _ _ _ _ hF (ho4.keep (fun a ha => (by have hh := hi4 a ha; exact (by (repeat (first | with_reducible exact Kp.refl _ _ | (with_reducible refine Kp.below ?_ (by assumption)) | (with_reducible refine Kp.rng ?_ (by assumption) ?_) | (with_reducible refine Kp.alloc ?_ _) | (with_reducible refine Kp.drew ?_) | (with_reducible refine Kp.drewN ?_ _) | (with_reducible refine Kp.setCell ?_ _ ?_))) <;> (first | omega | (simp; done) | (simp; omega)))))).rd (ho2.keep (fun a ha => (by have hh := hi2 a ha; exact (by (repeat (first | with_reducible exact Kp.refl _ _ | (with_reducible refine Kp.below ?_ (by assumption)) | (with_reducible refine Kp.rng ?_ (by assumption) ?_) | (with_reducible refine Kp.alloc ?_ _) | (with_reducible refine Kp.drew ?_) | (with_reducible refine Kp.drewN ?_ _) | (with_reducible refine Kp.setCell ?_ _ ?_))) <;> (first | omega | (simp; done) | (simp; omega)))))).rd).mono ?_
    rintro e _ ⟨rfl, m9, rfl⟩
    go_wp2_with fail
    refine (markIntS_rng (wordsOf xs0).length _ _ _ 1 _ _ _ (by omega) (by omega) hF (ho4.keep (fun a ha => (by have hh := hi4 a ha; exact (by (repeat (first | with_reducible exact Kp.refl _ _ | (with_reducible refine Kp.below ?_ (by assumption)) | (with_reducible refine Kp.rng ?_ (by assumption) ?_) | (with_reducible refine Kp.alloc ?_ _) | (with_reducible refine Kp.drew ?_) | (with_reducible refine Kp.drewN ?_ _) | (with_reducible refine Kp.setCell ?_ _ ?_))) <;> (first | omega | (simp; done) | (simp; omega)))))) hi4 (by first | omega | (simp; done) | (simp; omega))).mono ?_
    rintro e w10 ⟨rfl, ho10, hb10, hr10⟩
    have z10 := hb10.size
    try simp at z10
    have hi10 := hi4
    go_wp2_with fail
    refine (heldIntS_any (wordsOf xs0).length 1 _ _ _ (by omega) (by omega) hF (ho10.keep (fun a ha => (by have hh := hi10 a ha; exact (by (repeat (first | with_reducible exact Kp.refl _ _ | (with_reducible refine Kp.below ?_ (by assumption)) | (with_reducible refine Kp.rng ?_ (by assumption) ?_) | (with_reducible refine Kp.alloc ?_ _) | (with_reducible refine Kp.drew ?_) | (with_reducible refine Kp.drewN ?_ _) | (with_reducible refine Kp.setCell ?_ _ ?_))) <;> (first | omega | (simp; done) | (simp; omega)))))).rd).mono ?_
    rintro e _ ⟨rfl, rfl⟩
    go_wp2_with fail
    refine (toIntS_own xs0 _ _ _ hsz (hr0.below (by (repeat (first | with_reducible exact Below.refl _ _ | (with_reducible refine bel_next ?_ ?_ (by assumption)) | (with_reducible refine Below.alloc ?_ ?_ _) | (with_reducible refine Below.drew ?_) | (with_reducible refine below_drewN ?_ _) | (with_reducible refine Below.setCell ?_ ?_ _))) <;> (first | omega | (simp; done) | (simp; omega))))).mono ?_
    rintro e w11 ⟨g11, rfl, ho11, lo11, hi11, hb11⟩
    have z11 := hb11.size
    try simp at z11
    have hi11 : Ins (some ⟨g11, 0, none⟩) _ _ := ho11.ins
    go_wp2_with fail
    refine (iWordsOf_any xs0 _ _ _ hsz (ho11.keep (fun a ha => (by have hh := hi11 a ha; exact (by (repeat (first | with_reducible exact Kp.refl _ _ | (with_reducible refine Kp.below ?_ (by assumption)) | (with_reducible refine Kp.rng ?_ (by assumption) ?_) | (with_reducible refine Kp.alloc ?_ _) | (with_reducible refine Kp.drew ?_) | (with_reducible refine Kp.drewN ?_ _) | (with_reducible refine Kp.setCell ?_ _ ?_))) <;> (first | omega | (simp; done) | (simp; omega)))))).rd).mono ?_
    rintro e w12 ⟨a12, c12, rfl, ho12, hb12⟩
    have z12 := hb12.size
    try simp at z12
    have hi12 : Ins a12 _ _ := ho12.ins
    go_wp2_with fail
    refine (eqIntS_same (wordsOf xs0) _ _ _ _ _ hF (ho12.keep (fun a ha => (by have hh := hi12 a ha; exact (by (repeat (first | with_reducible exact Kp.refl _ _ | (with_reducible refine Kp.below ?_ (by assumption)) | (with_reducible refine Kp.rng ?_ (by assumption) ?_) | (with_reducible refine Kp.alloc ?_ _) | (with_reducible refine Kp.drew ?_) | (with_reducible refine Kp.drewN ?_ _) | (with_reducible refine Kp.setCell ?_ _ ?_))) <;> (first | omega | (simp; done) | (simp; omega)))))).rd (ho2.keep (fun a ha => (by have hh := hi2 a ha; exact (by (repeat (first | with_reducible exact Kp.refl _ _ | (with_reducible refine Kp.below ?_ (by assumption)) | (with_reducible refine Kp.rng ?_ (by assumption) ?_) | (with_reducible refine Kp.alloc ?_ _) | (with_reducible refine Kp.drew ?_) | (with_reducible refine Kp.drewN ?_ _) | (with_reducible refine Kp.setCell ?_ _ ?_))) <;> (first | omega | (simp; done) | (simp; omega)))))).rd).mono ?_
    rintro e _ ⟨rfl, m13, rfl⟩
    go_wp2_with fail
    refine (heldIntS_any (wordsOf xs0).length 1 _ _ _ (by omega) (by omega) hF (ho10.keep (fun a ha => (by have hh := hi10 a ha; exact (by (repeat (first | with_reducible exact Kp.refl _ _ | (with_reducible refine Kp.below ?_ (by assumption)) | (with_reducible refine Kp.rng ?_ (by assumption) ?_) | (with_reducible refine Kp.alloc ?_ _) | (with_reducible refine Kp.drew ?_) | (with_reducible refine Kp.drewN ?_ _) | (with_reducible refine Kp.setCell ?_ _ ?_))) <;> (first | omega | (simp; done) | (simp; omega)))))).rd).mono ?_
    rintro e _ ⟨rfl, rfl⟩
    go_wp2_with fail
    go_ret
    exact ⟨rfl, (by (repeat (first | with_reducible exact Below.refl _ _ | (with_reducible refine bel_next ?_ ?_ (by assumption)) | (with_reducible refine Below.alloc ?_ ?_ _) | (with_reducible refine Below.drew ?_) | (with_reducible refine below_drewN ?_ _) | (with_reducible refine Below.setCell ?_ ?_ _))) <;> (first | omega | (simp; done) | (simp; omega)))⟩
  · go_enter Try.func7, Try.ntmps7
    go_wp2_with fail
    go_ret
    exact ⟨rfl, Below.refl _ _⟩
end Go.Proofs.Ytnipfbgmafknfaa

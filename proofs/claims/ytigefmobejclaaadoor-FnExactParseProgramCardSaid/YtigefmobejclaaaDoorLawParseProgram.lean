/- The walk of the law FnExactParseProgram. -/
import Derived.Test.YtigefmobejclaaaDoorPpS
import Derived.Test.YtigefmobejclaaaDoorStmtList
import Derived.Test.YtigefmobejclaaaDoorOpen
namespace Go.Proofs.YtigefmobejclaaaDoor
open Go.RowKit
set_option linter.unusedVariables false

theorem ppL_len : ∀ (ls : List Bs) (i : Nat) (acc : List St), (ppL ls i acc).1.length ≤ 40 ∧ -1 ≤ (ppL ls i acc).2 ∧ (ppL ls i acc).2 ≤ i + ls.length
  | [], i, acc => by
    rw [ppL]
    split
    · next h => simp only [progOk, Bool.and_eq_true, decide_eq_true_eq] at h; exact ⟨h.1, by simp, by simp⟩
    · first | (simp; done) | (simp; omega)
  | y :: r, i, acc => by
    rw [ppL]
    split
    · have := ppL_len r (i + 1) acc
      simp only [List.length_cons]
      exact ⟨this.1, this.2.1, by omega⟩
    · split
      · have := ppL_len r (i + 1) (acc ++ [(pst y).1])
        simp only [List.length_cons]
        exact ⟨this.1, this.2.1, by omega⟩
      · simp; omega
theorem pp_len (l : Bs) : (pp l).1.length ≤ 40 := by
  unfold pp
  split
  · exact (ppL_len _ _ _).1
  · simp

set_option maxRecDepth 100000 in
set_option maxHeartbeats 4000000 in
theorem walk_FnExactParseProgram (w : World) (s : ByteArray) (hs : s.size ≤ maxLen) (hw : Laid w) :
    Calls Tryd.prog 6 #[.string s] w fun e w' => e = .returned (.bool true) ∧ Below w.heap.size w w' := by
  obtain ⟨l, rfl⟩ : ∃ l, s = bA l := ⟨s.data.toList, (bA_of s).symm⟩
  unfold maxLen at hs
  rw [bA_size] at hs
  have HW := Lib.hid hw
  clear hw
  by_cases hsz : l.length ≤ 1048576
  case neg =>
    have t0 : decide ((l.length : Int) > 1048576) = true := decide_eq_true (by omega)
    have t1 : decide ((1048576 : Int) < (l.length : Int)) = true := decide_eq_true (by omega)
    go_enter Tryd.func6, Tryd.ntmps6
    go_wp2_with fail
    go_ret
    exact ⟨rfl, Below.refl _ _⟩
  have t0 : decide ((l.length : Int) > 1048576) = false := decide_eq_false (by omega)
  have t1 : decide ((1048576 : Int) < (l.length : Int)) = false := decide_eq_false (by omega)
  have HS := Lib.hid (fun W => sParseProgram_any l (by omega) W)
  have HI := Lib.hid (fun W h => iParseProgram_any l (by omega) W h)
  have h40 := pp_len l
  unfold IsPP at HS HI
  generalize (pp l).1 = xs at HS HI h40
  generalize (pp l).2 = r at HS HI
  have hF : xs.length ≤ 1048576 := by omega
  go_enter Tryd.func6, Tryd.ntmps6
  go_wp2_with fail
  refine (HS.out _).mono ?_
  rintro e w1 ⟨⟨a1, c1, rfl, ho1⟩, hb1⟩
  have z1 := hb1.size
  have hi1 : Ins a1 _ _ := ho1.ins
  go_wp2_with fail
  refine (HI.out _ (HW.out.below (by (repeat (first | with_reducible exact Below.refl _ _ | (with_reducible refine bel_next ?_ ?_ (by assumption)) | (with_reducible refine Below.alloc ?_ ?_ _) | (with_reducible refine Below.drew ?_) | (with_reducible refine below_drewN ?_ _) | (with_reducible refine Below.setCell ?_ ?_ _))) <;> (first | omega | (simp; done) | (simp; omega))))).mono ?_
  rintro e w2 ⟨⟨a2, c2, rfl, ho2⟩, hb2⟩
  have z2 := hb2.size
  have hi2 : Ins a2 _ _ := ho2.ins
  go_wp2_with fail
  refine (eqStmtS_same xs _ _ _ _ _ hF (ho2.keep (fun a ha => (by have hh := hi2 a ha; exact (by (repeat (first | with_reducible exact Kp.refl _ _ | (with_reducible refine Kp.below ?_ (by assumption)) | (with_reducible refine Kp.rng ?_ (by assumption) ?_) | (with_reducible refine Kp.alloc ?_ _) | (with_reducible refine Kp.drew ?_) | (with_reducible refine Kp.drewN ?_ _) | (with_reducible refine Kp.setCell ?_ _ ?_))) <;> (first | omega | (simp; done) | (simp; omega)))))).rd (ho1.keep (fun a ha => (by have hh := hi1 a ha; exact (by (repeat (first | with_reducible exact Kp.refl _ _ | (with_reducible refine Kp.below ?_ (by assumption)) | (with_reducible refine Kp.rng ?_ (by assumption) ?_) | (with_reducible refine Kp.alloc ?_ _) | (with_reducible refine Kp.drew ?_) | (with_reducible refine Kp.drewN ?_ _) | (with_reducible refine Kp.setCell ?_ _ ?_))) <;> (first | omega | (simp; done) | (simp; omega)))))).rd).mono ?_
  rintro e w3 ⟨rfl, hb3⟩
  have z3 := hb3.size
  go_wp2_with fail
  refine (markStmtS_rng xs.length _ _ _ _ 1 _ _ _ (by omega) (by omega) hF (ho2.keep (fun a ha => (by have hh := hi2 a ha; exact (by (repeat (first | with_reducible exact Kp.refl _ _ | (with_reducible refine Kp.below ?_ (by assumption)) | (with_reducible refine Kp.rng ?_ (by assumption) ?_) | (with_reducible refine Kp.alloc ?_ _) | (with_reducible refine Kp.drew ?_) | (with_reducible refine Kp.drewN ?_ _) | (with_reducible refine Kp.setCell ?_ _ ?_))) <;> (first | omega | (simp; done) | (simp; omega)))))) hi2 (by first | omega | (simp; omega))).mono ?_
  rintro e w4 ⟨rfl, ho4, hb4, hr4⟩
  have z4 := hb4.size
  have hi4 := hi2
  go_wp2_with fail
  refine (heldStmtS_any xs.length 1 _ _ _ (by omega) (by omega) hF (ho4.keep (fun a ha => (by have hh := hi4 a ha; exact (by (repeat (first | with_reducible exact Kp.refl _ _ | (with_reducible refine Kp.below ?_ (by assumption)) | (with_reducible refine Kp.rng ?_ (by assumption) ?_) | (with_reducible refine Kp.alloc ?_ _) | (with_reducible refine Kp.drew ?_) | (with_reducible refine Kp.drewN ?_ _) | (with_reducible refine Kp.setCell ?_ _ ?_))) <;> (first | omega | (simp; done) | (simp; omega)))))).rd).mono ?_
  rintro e _ ⟨rfl, rfl⟩
  go_wp2_with fail
  refine (HI.out _ (HW.out.below (by (repeat (first | with_reducible exact Below.refl _ _ | (with_reducible refine bel_next ?_ ?_ (by assumption)) | (with_reducible refine Below.alloc ?_ ?_ _) | (with_reducible refine Below.drew ?_) | (with_reducible refine below_drewN ?_ _) | (with_reducible refine Below.setCell ?_ ?_ _))) <;> (first | omega | (simp; done) | (simp; omega))))).mono ?_
  rintro e w5 ⟨⟨a5, c5, rfl, ho5⟩, hb5⟩
  have z5 := hb5.size
  have hi5 : Ins a5 _ _ := ho5.ins
  go_wp2_with fail
  refine (eqStmtS_same xs _ _ _ _ _ hF (ho5.keep (fun a ha => (by have hh := hi5 a ha; exact (by (repeat (first | with_reducible exact Kp.refl _ _ | (with_reducible refine Kp.below ?_ (by assumption)) | (with_reducible refine Kp.rng ?_ (by assumption) ?_) | (with_reducible refine Kp.alloc ?_ _) | (with_reducible refine Kp.drew ?_) | (with_reducible refine Kp.drewN ?_ _) | (with_reducible refine Kp.setCell ?_ _ ?_))) <;> (first | omega | (simp; done) | (simp; omega)))))).rd (ho1.keep (fun a ha => (by have hh := hi1 a ha; exact (by (repeat (first | with_reducible exact Kp.refl _ _ | (with_reducible refine Kp.below ?_ (by assumption)) | (with_reducible refine Kp.rng ?_ (by assumption) ?_) | (with_reducible refine Kp.alloc ?_ _) | (with_reducible refine Kp.drew ?_) | (with_reducible refine Kp.drewN ?_ _) | (with_reducible refine Kp.setCell ?_ _ ?_))) <;> (first | omega | (simp; done) | (simp; omega)))))).rd).mono ?_
  rintro e w6 ⟨rfl, hb6⟩
  have z6 := hb6.size
  go_wp2_with fail
  refine (heldStmtS_any xs.length 1 _ _ _ (by omega) (by omega) hF (ho4.keep (fun a ha => (by have hh := hi4 a ha; exact (by (repeat (first | with_reducible exact Kp.refl _ _ | (with_reducible refine Kp.below ?_ (by assumption)) | (with_reducible refine Kp.rng ?_ (by assumption) ?_) | (with_reducible refine Kp.alloc ?_ _) | (with_reducible refine Kp.drew ?_) | (with_reducible refine Kp.drewN ?_ _) | (with_reducible refine Kp.setCell ?_ _ ?_))) <;> (first | omega | (simp; done) | (simp; omega)))))).rd).mono ?_
  rintro e _ ⟨rfl, rfl⟩
  go_wp2_with fail
  go_ret
  exact ⟨rfl, (by (repeat (first | with_reducible exact Below.refl _ _ | (with_reducible refine bel_next ?_ ?_ (by assumption)) | (with_reducible refine Below.alloc ?_ ?_ _) | (with_reducible refine Below.drew ?_) | (with_reducible refine below_drewN ?_ _) | (with_reducible refine Below.setCell ?_ ?_ _))) <;> (first | omega | (simp; done) | (simp; omega)))⟩
end Go.Proofs.YtigefmobejclaaaDoor

/- The walk of the law on StateOk. -/
import Derived.Test.YtnipfbgmafknfaaState
import Derived.Test.YtnipfbgmafknfaaOpen
namespace Go.Proofs.Ytnipfbgmafknfaa
open Go.RowKit

set_option maxHeartbeats 1000000 in
theorem walk_FnExactStateOk (w : World) (xs0 : List Int) (ad0 : Option Addr) (cap0 : Nat) (hm0 : xs0.length ≤ maxLen) (hr0 : RdC w ad0 (I64 xs0)) (xs1 : List Int) (ad1 : Option Addr) (cap1 : Nat) (hm1 : xs1.length ≤ maxLen) (hr1 : RdC w ad1 (I64 xs1)) :
    Calls Try.prog 8 #[.agg #[.slice ad0 xs0.length cap0, .slice ad1 xs1.length cap1]] w fun e w' => e = .returned (.bool true) ∧ Below w.heap.size w w' := by
  by_cases hsz : (xs0.length : Int) + xs1.length ≤ 1048576
  · have e1 : (if (xs0.length : Int) + xs1.length ≤ 1048576 then 1048576 - (xs0.length : Int) - xs1.length else -1) = 1048576 - xs0.length - xs1.length := if_pos hsz
    have E1 := Lib.hid e1
    clear e1
    have hm0' : xs0.length ≤ 1048576 := by omega
    have hm1' : xs1.length ≤ 1048576 := by omega
    go_enter Try.func8, Try.ntmps8
    go_wp2_with fail
    refine (szState_any xs0.length xs1.length _ _ _ _ _ hm0 hm1 1048576 (by omega) (by omega)).mono ?_
    rintro e w1 ⟨rfl, hb1⟩
    rw [E1.out]
    have z1 := hb1.size; (try simp at z1); have y1_0 : w.heap.size < w1.heap.size := (by omega); have k1_0 := bel_keeps hb1 (b := w.heap.size) (o := 0) (v := .slice ad0 xs0.length cap0) (by go_simp); have k1_1 := bel_keeps hb1 (b := w.heap.size) (o := 1) (v := .slice ad1 xs1.length cap1) (by go_simp)
    go_wp2_with fail
    refine (toState_any xs0 xs1 _ _ _ _ _ hm0' hm1' (hr0.below (by (repeat (first | with_reducible exact Below.refl _ _ | (with_reducible refine bel_next ?_ ?_ (by assumption)) | (with_reducible refine Below.alloc ?_ ?_ _) | (with_reducible refine Below.drew ?_) | (with_reducible refine below_drewN ?_ _) | (with_reducible refine Below.setCell ?_ ?_ _))) <;> (first | omega | (simp; done) | (simp; omega)))) (hr1.below (by (repeat (first | with_reducible exact Below.refl _ _ | (with_reducible refine bel_next ?_ ?_ (by assumption)) | (with_reducible refine Below.alloc ?_ ?_ _) | (with_reducible refine Below.drew ?_) | (with_reducible refine below_drewN ?_ _) | (with_reducible refine Below.setCell ?_ ?_ _))) <;> (first | omega | (simp; done) | (simp; omega))))).mono ?_
    rintro e w2 ⟨g1, g2, rfl, ho1, ho2, _, hb2⟩
    have z2 := hb2.size; (try simp at z2); have y2_0 : w.heap.size < w2.heap.size := (by omega); have k2_0 := bel_keeps hb2 (b := w.heap.size) (o := 0) (v := .slice ad0 xs0.length cap0) (by go_simp); have k2_1 := bel_keeps hb2 (b := w.heap.size) (o := 1) (v := .slice ad1 xs1.length cap1) (by go_simp)
    go_wp2_with fail
    refine (sStateOk_any xs0 xs1 _ _ _ _ _ hm0 hm1 ho1.rd ho2.rd).mono ?_
    rintro e w3 ⟨rfl, hb3⟩
    have z3 := hb3.size; (try simp at z3); have y3_0 : w.heap.size < w3.heap.size := (by omega); have k3_0 := bel_keeps hb3 (b := w.heap.size) (o := 0) (v := .slice ad0 xs0.length cap0) (by go_simp); have k3_1 := bel_keeps hb3 (b := w.heap.size) (o := 1) (v := .slice ad1 xs1.length cap1) (by go_simp)
    go_wp2_with fail
    refine (toState_any xs0 xs1 _ _ _ _ _ hm0' hm1' (hr0.below (by (repeat (first | with_reducible exact Below.refl _ _ | (with_reducible refine bel_next ?_ ?_ (by assumption)) | (with_reducible refine Below.alloc ?_ ?_ _) | (with_reducible refine Below.drew ?_) | (with_reducible refine below_drewN ?_ _) | (with_reducible refine Below.setCell ?_ ?_ _))) <;> (first | omega | (simp; done) | (simp; omega)))) (hr1.below (by (repeat (first | with_reducible exact Below.refl _ _ | (with_reducible refine bel_next ?_ ?_ (by assumption)) | (with_reducible refine Below.alloc ?_ ?_ _) | (with_reducible refine Below.drew ?_) | (with_reducible refine below_drewN ?_ _) | (with_reducible refine Below.setCell ?_ ?_ _))) <;> (first | omega | (simp; done) | (simp; omega))))).mono ?_
    rintro e w4 ⟨g3, g4, rfl, ho3, ho4, _, hb4⟩
    have z4 := hb4.size; (try simp at z4); have y4_0 : w.heap.size < w4.heap.size := (by omega); have k4_0 := bel_keeps hb4 (b := w.heap.size) (o := 0) (v := .slice ad0 xs0.length cap0) (by go_simp); have k4_1 := bel_keeps hb4 (b := w.heap.size) (o := 1) (v := .slice ad1 xs1.length cap1) (by go_simp)
    go_wp2_with fail
    refine (iStateOk_any xs0 xs1 _ _ _ _ _ hm0 hm1 (ho3.rd.below (by (repeat (first | with_reducible exact Below.refl _ _ | (with_reducible refine bel_next ?_ ?_ (by assumption)) | (with_reducible refine Below.alloc ?_ ?_ _) | (with_reducible refine Below.drew ?_) | (with_reducible refine below_drewN ?_ _) | (with_reducible refine Below.setCell ?_ ?_ _))) <;> (first | omega | (simp; done) | (simp; omega)))) (ho4.rd.below (by (repeat (first | with_reducible exact Below.refl _ _ | (with_reducible refine bel_next ?_ ?_ (by assumption)) | (with_reducible refine Below.alloc ?_ ?_ _) | (with_reducible refine Below.drew ?_) | (with_reducible refine below_drewN ?_ _) | (with_reducible refine Below.setCell ?_ ?_ _))) <;> (first | omega | (simp; done) | (simp; omega))))).mono ?_
    rintro e w5 ⟨rfl, hb5⟩
    have z5 := hb5.size; (try simp at z5); have y5_0 : w.heap.size < w5.heap.size := (by omega); have y5_1 : w4.heap.size < w5.heap.size := (by omega); have k5_0 := bel_keeps hb5 (b := w.heap.size) (o := 0) (v := .slice ad0 xs0.length cap0) (by go_simp); have k5_1 := bel_keeps hb5 (b := w.heap.size) (o := 1) (v := .slice ad1 xs1.length cap1) (by go_simp); have k5_2 := bel_keeps hb5 (b := w4.heap.size) (o := 0) (v := .slice (some ⟨g3, 0, none⟩) xs0.length xs0.length) (by go_simp); have k5_3 := bel_keeps hb5 (b := w4.heap.size) (o := 1) (v := .slice (some ⟨g4, 0, none⟩) xs1.length xs1.length) (by go_simp)
    go_wp2_with fail
    go_region_held3 (fun w' => w'.cell? ⟨w.heap.size, 0, none⟩ = some (.slice ad0 xs0.length cap0) ∧ w'.cell? ⟨w.heap.size, 1, none⟩ = some (.slice ad1 xs1.length cap1) ∧ w'.cell? ⟨w4.heap.size, 0, none⟩ = some (.slice (some ⟨g3, 0, none⟩) xs0.length xs0.length) ∧ w'.cell? ⟨w4.heap.size, 1, none⟩ = some (.slice (some ⟨g4, 0, none⟩) xs1.length xs1.length))
      (first | go_keep | (go_split_ands; refine ⟨?_, ?_, ?_, ?_⟩ <;> (refine bel_keeps hb6 ?_; go_simp)))
      (first | (go_at_call 33; refine (toState_any xs0 xs1 _ _ _ _ _ hm0' hm1' (hr0.below (by (repeat (first | with_reducible exact Below.refl _ _ | (with_reducible refine bel_next ?_ ?_ (by assumption)) | (with_reducible refine Below.alloc ?_ ?_ _) | (with_reducible refine Below.drew ?_) | (with_reducible refine below_drewN ?_ _) | (with_reducible refine Below.setCell ?_ ?_ _))) <;> (first | omega | (simp; done) | (simp; omega)))) (hr1.below (by (repeat (first | with_reducible exact Below.refl _ _ | (with_reducible refine bel_next ?_ ?_ (by assumption)) | (with_reducible refine Below.alloc ?_ ?_ _) | (with_reducible refine Below.drew ?_) | (with_reducible refine below_drewN ?_ _) | (with_reducible refine Below.setCell ?_ ?_ _))) <;> (first | omega | (simp; done) | (simp; omega))))).mono ?_; rintro e w6 ⟨g5, g6, rfl, ho5, ho6, _, hb6⟩; have z6 := hb6.size; (try simp at z6)) | (go_at_call 35; refine (eqState_same xs0 xs1 _ _ _ _ _ _ _ _ _ hm0' hm1' (ho3.rd.below (by (repeat (first | with_reducible exact Below.refl _ _ | (with_reducible refine bel_next ?_ ?_ (by assumption)) | (with_reducible refine Below.alloc ?_ ?_ _) | (with_reducible refine Below.drew ?_) | (with_reducible refine below_drewN ?_ _) | (with_reducible refine Below.setCell ?_ ?_ _))) <;> (first | omega | (simp; done) | (simp; omega)))) (ho4.rd.below (by (repeat (first | with_reducible exact Below.refl _ _ | (with_reducible refine bel_next ?_ ?_ (by assumption)) | (with_reducible refine Below.alloc ?_ ?_ _) | (with_reducible refine Below.drew ?_) | (with_reducible refine below_drewN ?_ _) | (with_reducible refine Below.setCell ?_ ?_ _))) <;> (first | omega | (simp; done) | (simp; omega)))) ho5.rd ho6.rd).mono ?_; rintro e w7 ⟨rfl, hb6⟩; have z7 := hb6.size; (try simp at z7)))
    all_goals go_wp2_with fail
    all_goals go_ret
    all_goals exact ⟨rfl, (by (repeat (first | with_reducible exact Below.refl _ _ | (with_reducible refine bel_next ?_ ?_ (by assumption)) | (with_reducible refine Below.alloc ?_ ?_ _) | (with_reducible refine Below.drew ?_) | (with_reducible refine below_drewN ?_ _) | (with_reducible refine Below.setCell ?_ ?_ _))) <;> (first | omega | (simp; done) | (simp; omega)))⟩
  · have e1 : (if (xs0.length : Int) + xs1.length ≤ 1048576 then 1048576 - (xs0.length : Int) - xs1.length else -1) = -1 := if_neg hsz
    have E1 := Lib.hid e1
    clear e1
    go_enter Try.func8, Try.ntmps8
    go_wp2_with fail
    refine (szState_any xs0.length xs1.length _ _ _ _ _ hm0 hm1 1048576 (by omega) (by omega)).mono ?_
    rintro e w1 ⟨rfl, hb1⟩
    rw [E1.out]
    go_wp2_with fail
    go_ret
    exact ⟨rfl, (by (repeat (first | with_reducible exact Below.refl _ _ | (with_reducible refine bel_next ?_ ?_ (by assumption)) | (with_reducible refine Below.alloc ?_ ?_ _) | (with_reducible refine Below.drew ?_) | (with_reducible refine below_drewN ?_ _) | (with_reducible refine Below.setCell ?_ ?_ _))) <;> (first | omega | (simp; done) | (simp; omega)))⟩
end Go.Proofs.Ytnipfbgmafknfaa

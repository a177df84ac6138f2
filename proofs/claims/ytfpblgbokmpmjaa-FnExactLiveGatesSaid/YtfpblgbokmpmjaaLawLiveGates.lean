/- The walk of the law FnExactLiveGates. -/
import Derived.Test.YtfpblgbokmpmjaaCirc
import Derived.Test.YtfpblgbokmpmjaaPruneF2
import Derived.Deep.RegionHeld3
namespace Go.Proofs.Ytfpblgbokmpmjaa
open Go.RowKit
set_option linter.unusedVariables false
set_option linter.unusedSimpArgs false

set_option maxRecDepth 20000 in
set_option maxHeartbeats 4000000 in
theorem walk_FnExactLiveGates (w : World) (ns00 : List Int) (len00 : Nat) (ad00 : Option Addr) (cap00 : Nat) (e00 : ns00.length = len00 * 3) (hm00 : len00 ≤ maxLen) (hr00 : RdC w ad00 (I64 ns00)) (xs01 : List Int) (ad01 : Option Addr) (cap01 : Nat) (hm01 : xs01.length ≤ maxLen) (hr01 : RdC w ad01 (I64 xs01)) :
    Calls Try.prog 8 #[.agg #[.slice ad00 len00 cap00, .slice ad01 xs01.length cap01]] w fun e w' => e = .returned (.bool true) ∧ Below w.heap.size w w' := by
  obtain ⟨gs, hl0, hx0⟩ := gt_of_ints len00 ns00 e00
  rw [← hx0] at hr00
  subst hl0
  clear e00 hx0 ns00
  by_cases hsz : (gs.length : Int) + xs01.length ≤ 1048576
  · have e1 : (if (gs.length : Int) + xs01.length ≤ 1048576 then 1048576 - (gs.length : Int) - xs01.length else -1) = 1048576 - gs.length - xs01.length := if_pos hsz
    have E1 := Lib.hid e1
    clear e1
    have hm0' : gs.length ≤ 1048576 := by omega
    have hm1' : xs01.length ≤ 1048576 := by omega
    go_enter Try.func8, Try.ntmps8
    go_wp2_with fail
    refine (szCircuit_any gs.length xs01.length _ _ _ _ _ hm00 hm01 1048576 (by omega) (by omega)).mono ?_
    rintro e w1 ⟨rfl, hb1⟩
    rw [E1.out]
    have z1 := hb1.size; (try simp at z1); have y1_0 : w.heap.size < w1.heap.size := (by omega); have k1_0 := bel_keeps hb1 (b := w.heap.size) (o := 0) (v := .slice ad00 gs.length cap00) (by go_simp); have k1_1 := bel_keeps hb1 (b := w.heap.size) (o := 1) (v := .slice ad01 xs01.length cap01) (by go_simp)
    go_wp2_with fail
    refine (toCircuit_any gs xs01 _ _ _ _ _ hm0' hm1' (hr00.below (by (repeat (first | with_reducible exact Below.refl _ _ | (with_reducible refine bel_next ?_ ?_ (by assumption)) | (with_reducible refine Below.alloc ?_ ?_ _) | (with_reducible refine Below.drew ?_) | (with_reducible refine below_drewN ?_ _) | (with_reducible refine Below.setCell ?_ ?_ _))) <;> (first | omega | (simp; done) | (simp; omega)))) (hr01.below (by (repeat (first | with_reducible exact Below.refl _ _ | (with_reducible refine bel_next ?_ ?_ (by assumption)) | (with_reducible refine Below.alloc ?_ ?_ _) | (with_reducible refine Below.drew ?_) | (with_reducible refine below_drewN ?_ _) | (with_reducible refine Below.setCell ?_ ?_ _))) <;> (first | omega | (simp; done) | (simp; omega))))).mono ?_
    rintro e w2 ⟨g1, g2, rfl, ho1, ho2, _, hb2⟩
    have z2 := hb2.size; (try simp at z2); have y2_0 : w.heap.size < w2.heap.size := (by omega); have k2_0 := bel_keeps hb2 (b := w.heap.size) (o := 0) (v := .slice ad00 gs.length cap00) (by go_simp); have k2_1 := bel_keeps hb2 (b := w.heap.size) (o := 1) (v := .slice ad01 xs01.length cap01) (by go_simp)
    go_wp2_with fail
    refine (sLiveGates_any gs xs01 _ _ _ _ _ hm0' hm1' ho1.rd ho2.rd).mono ?_
    rintro e w3 ⟨rfl, hb3⟩
    have z3 := hb3.size; (try simp at z3); have y3_0 : w.heap.size < w3.heap.size := (by omega); have k3_0 := bel_keeps hb3 (b := w.heap.size) (o := 0) (v := .slice ad00 gs.length cap00) (by go_simp); have k3_1 := bel_keeps hb3 (b := w.heap.size) (o := 1) (v := .slice ad01 xs01.length cap01) (by go_simp)
    go_wp2_with fail
    refine (toCircuit_any gs xs01 _ _ _ _ _ hm0' hm1' (hr00.below (by (repeat (first | with_reducible exact Below.refl _ _ | (with_reducible refine bel_next ?_ ?_ (by assumption)) | (with_reducible refine Below.alloc ?_ ?_ _) | (with_reducible refine Below.drew ?_) | (with_reducible refine below_drewN ?_ _) | (with_reducible refine Below.setCell ?_ ?_ _))) <;> (first | omega | (simp; done) | (simp; omega)))) (hr01.below (by (repeat (first | with_reducible exact Below.refl _ _ | (with_reducible refine bel_next ?_ ?_ (by assumption)) | (with_reducible refine Below.alloc ?_ ?_ _) | (with_reducible refine Below.drew ?_) | (with_reducible refine below_drewN ?_ _) | (with_reducible refine Below.setCell ?_ ?_ _))) <;> (first | omega | (simp; done) | (simp; omega))))).mono ?_
    rintro e w4 ⟨g3, g4, rfl, ho3, ho4, _, hb4⟩
    have z4 := hb4.size; (try simp at z4); have y4_0 : w.heap.size < w4.heap.size := (by omega); have k4_0 := bel_keeps hb4 (b := w.heap.size) (o := 0) (v := .slice ad00 gs.length cap00) (by go_simp); have k4_1 := bel_keeps hb4 (b := w.heap.size) (o := 1) (v := .slice ad01 xs01.length cap01) (by go_simp)
    go_wp2_with fail
    refine (iLiveGates_any gs xs01 _ _ _ _ _ hm0' hm1' (ho3.rd.below (by (repeat (first | with_reducible exact Below.refl _ _ | (with_reducible refine bel_next ?_ ?_ (by assumption)) | (with_reducible refine Below.alloc ?_ ?_ _) | (with_reducible refine Below.drew ?_) | (with_reducible refine below_drewN ?_ _) | (with_reducible refine Below.setCell ?_ ?_ _))) <;> (first | omega | (simp; done) | (simp; omega)))) (ho4.rd.below (by (repeat (first | with_reducible exact Below.refl _ _ | (with_reducible refine bel_next ?_ ?_ (by assumption)) | (with_reducible refine Below.alloc ?_ ?_ _) | (with_reducible refine Below.drew ?_) | (with_reducible refine below_drewN ?_ _) | (with_reducible refine Below.setCell ?_ ?_ _))) <;> (first | omega | (simp; done) | (simp; omega))))).mono ?_
    rintro e w5 ⟨rfl, hb5⟩
    have z5 := hb5.size; (try simp at z5); have y5_0 : w.heap.size < w5.heap.size := (by omega); have y5_1 : w4.heap.size < w5.heap.size := (by omega); have k5_0 := bel_keeps hb5 (b := w.heap.size) (o := 0) (v := .slice ad00 gs.length cap00) (by go_simp); have k5_1 := bel_keeps hb5 (b := w.heap.size) (o := 1) (v := .slice ad01 xs01.length cap01) (by go_simp); have k5_2 := bel_keeps hb5 (b := w4.heap.size) (o := 0) (v := .slice (some ⟨g3, 0, none⟩) gs.length gs.length) (by go_simp); have k5_3 := bel_keeps hb5 (b := w4.heap.size) (o := 1) (v := .slice (some ⟨g4, 0, none⟩) xs01.length xs01.length) (by go_simp)
    go_wp2_with fail
    go_region_held3 (fun w' => w'.cell? ⟨w.heap.size, 0, none⟩ = some (.slice ad00 gs.length cap00) ∧ w'.cell? ⟨w.heap.size, 1, none⟩ = some (.slice ad01 xs01.length cap01) ∧ w'.cell? ⟨w4.heap.size, 0, none⟩ = some (.slice (some ⟨g3, 0, none⟩) gs.length gs.length) ∧ w'.cell? ⟨w4.heap.size, 1, none⟩ = some (.slice (some ⟨g4, 0, none⟩) xs01.length xs01.length))
      (first | go_keep | (go_split_ands; refine ⟨?_, ?_, ?_, ?_⟩ <;> (refine bel_keeps hb6 ?_; go_simp)))
      (first | (go_at_call 19; refine (toCircuit_any gs xs01 _ _ _ _ _ hm0' hm1' (hr00.below (by (repeat (first | with_reducible exact Below.refl _ _ | (with_reducible refine bel_next ?_ ?_ (by assumption)) | (with_reducible refine Below.alloc ?_ ?_ _) | (with_reducible refine Below.drew ?_) | (with_reducible refine below_drewN ?_ _) | (with_reducible refine Below.setCell ?_ ?_ _))) <;> (first | omega | (simp; done) | (simp; omega)))) (hr01.below (by (repeat (first | with_reducible exact Below.refl _ _ | (with_reducible refine bel_next ?_ ?_ (by assumption)) | (with_reducible refine Below.alloc ?_ ?_ _) | (with_reducible refine Below.drew ?_) | (with_reducible refine below_drewN ?_ _) | (with_reducible refine Below.setCell ?_ ?_ _))) <;> (first | omega | (simp; done) | (simp; omega))))).mono ?_; rintro e w6 ⟨g5, g6, rfl, ho5, ho6, _, hb6⟩; have z6 := hb6.size; (try simp at z6)) | (go_at_call 21; refine (eqCircuit_same gs xs01 _ _ _ _ _ _ _ _ _ hm0' hm1' (ho3.rd.below (by (repeat (first | with_reducible exact Below.refl _ _ | (with_reducible refine bel_next ?_ ?_ (by assumption)) | (with_reducible refine Below.alloc ?_ ?_ _) | (with_reducible refine Below.drew ?_) | (with_reducible refine below_drewN ?_ _) | (with_reducible refine Below.setCell ?_ ?_ _))) <;> (first | omega | (simp; done) | (simp; omega)))) (ho4.rd.below (by (repeat (first | with_reducible exact Below.refl _ _ | (with_reducible refine bel_next ?_ ?_ (by assumption)) | (with_reducible refine Below.alloc ?_ ?_ _) | (with_reducible refine Below.drew ?_) | (with_reducible refine below_drewN ?_ _) | (with_reducible refine Below.setCell ?_ ?_ _))) <;> (first | omega | (simp; done) | (simp; omega)))) ho5.rd ho6.rd).mono ?_; rintro e w7 ⟨rfl, hb6⟩; have z7 := hb6.size; (try simp at z7)))
    all_goals go_wp2_with fail
    all_goals go_ret
    all_goals exact ⟨rfl, (by (repeat (first | with_reducible exact Below.refl _ _ | (with_reducible refine bel_next ?_ ?_ (by assumption)) | (with_reducible refine Below.alloc ?_ ?_ _) | (with_reducible refine Below.drew ?_) | (with_reducible refine below_drewN ?_ _) | (with_reducible refine Below.setCell ?_ ?_ _))) <;> (first | omega | (simp; done) | (simp; omega)))⟩
  · have e1 : (if (gs.length : Int) + xs01.length ≤ 1048576 then 1048576 - (gs.length : Int) - xs01.length else -1) = -1 := if_neg hsz
    have E1 := Lib.hid e1
    clear e1
    go_enter Try.func8, Try.ntmps8
    go_wp2_with fail
    refine (szCircuit_any gs.length xs01.length _ _ _ _ _ hm00 hm01 1048576 (by omega) (by omega)).mono ?_
    rintro e w1 ⟨rfl, hb1⟩
    rw [E1.out]
    go_wp2_with fail
    go_ret
    exact ⟨rfl, (by (repeat (first | with_reducible exact Below.refl _ _ | (with_reducible refine bel_next ?_ ?_ (by assumption)) | (with_reducible refine Below.alloc ?_ ?_ _) | (with_reducible refine Below.drew ?_) | (with_reducible refine below_drewN ?_ _) | (with_reducible refine Below.setCell ?_ ?_ _))) <;> (first | omega | (simp; done) | (simp; omega)))⟩
end Go.Proofs.Ytfpblgbokmpmjaa

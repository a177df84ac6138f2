/- The laws' helpers over circuits. -/
import Derived.Test.YtfcijloiebnloaaGateList
import Derived.Test.YtfcijloiebnloaaList
namespace Go.Proofs.Ytfcijloiebnloaa
open Go.RowKit
set_option linter.unusedVariables false
set_option linter.unusedSimpArgs false

set_option maxHeartbeats 1000000 in
theorem toCircuit_any (xs : List Gt) (ys : List Int) (a1 a2 : Option Addr) (c1 c2 : Nat) (w : World) (hm1 : xs.length ≤ 1048576) (hm2 : ys.length ≤ 1048576) (hr1 : RdC w a1 (gtCells xs)) (hr2 : RdC w a2 (I64 ys)) :
    Calls Try.prog 14 #[.agg #[.slice a1 xs.length c1, .slice a2 ys.length c2]] w fun e w' => ∃ g1 g2, e = .returned (.agg #[.slice (some ⟨g1, 0, none⟩) xs.length xs.length, .slice (some ⟨g2, 0, none⟩) ys.length ys.length]) ∧
      Own w' w.heap.size 109 3 (some ⟨g1, 0, none⟩) xs.length xs.length (gtCells xs) ∧ Own w' w.heap.size 3 1 (some ⟨g2, 0, none⟩) ys.length ys.length (I64 ys) ∧ g1 < g2 ∧ Below w.heap.size w w' := by
  go_enter Try.func14, Try.ntmps14
  go_wp2_with fail
  refine (toGateS_any xs _ _ _ hm1 (hr1.below (by (repeat (first | with_reducible exact Below.refl _ _ | (with_reducible refine bel_next ?_ ?_ (by assumption)) | (with_reducible refine Below.alloc ?_ ?_ _) | (with_reducible refine Below.drew ?_) | (with_reducible refine below_drewN ?_ _) | (with_reducible refine Below.setCell ?_ ?_ _))) <;> (first | omega | (simp; done) | (simp; omega))))).mono ?_
  rintro e w1 ⟨g1, rfl, ho1, l1, l2, hb1⟩
  simp at l1
  have z1 := hb1.size; (try simp at z1); have y1_0 : w.heap.size < w1.heap.size := (by omega); have y1_1 : w.heap.size + 1 < w1.heap.size := (by omega); have y1_2 : w.heap.size + 1 + 1 < w1.heap.size := (by omega); have k1_0 := bel_keeps hb1 (b := w.heap.size) (o := 1) (v := .slice a2 ys.length c2) (by go_simp); have k1_1 := bel_keeps hb1 (b := w.heap.size + 1) (o := 0) (v := .slice none 0 0) (by go_simp); have k1_2 := bel_keeps hb1 (b := w.heap.size + 1) (o := 1) (v := .slice none 0 0) (by go_simp); have k1_3 := bel_keeps hb1 (b := w.heap.size + 1 + 1) (o := 0) (v := .slice none 0 0) (by go_simp); have k1_4 := bel_keeps hb1 (b := w.heap.size + 1 + 1) (o := 1) (v := .slice none 0 0) (by go_simp); have f1_0 := bel_free hb1 (b := w.heap.size + 1) (o := 0) (by first | omega | (simp; done) | (simp; omega)) (by go_simp); have f1_1 := bel_free hb1 (b := w.heap.size + 1) (o := 1) (by first | omega | (simp; done) | (simp; omega)) (by go_simp); have f1_2 := bel_free hb1 (b := w.heap.size + 1 + 1) (o := 0) (by first | omega | (simp; done) | (simp; omega)) (by go_simp); have f1_3 := bel_free hb1 (b := w.heap.size + 1 + 1) (o := 1) (by first | omega | (simp; done) | (simp; omega)) (by go_simp)
  go_wp2_with fail
  refine (toIntS_own ys _ _ _ hm2 (hr2.below (by (repeat (first | with_reducible exact Below.refl _ _ | (with_reducible refine bel_next ?_ ?_ (by assumption)) | (with_reducible refine Below.alloc ?_ ?_ _) | (with_reducible refine Below.drew ?_) | (with_reducible refine below_drewN ?_ _) | (with_reducible refine Below.setCell ?_ ?_ _))) <;> (first | omega | (simp; done) | (simp; omega))))).mono ?_
  rintro e w2 ⟨g2, rfl, ho2, l3, l4, hb2⟩
  simp at l3
  have z2 := hb2.size; (try simp at z2); have y2_0 : w.heap.size + 1 < w2.heap.size := (by omega); have y2_1 : w.heap.size + 1 + 1 < w2.heap.size := (by omega); have k2_0 := bel_keeps hb2 (b := w.heap.size + 1) (o := 0) (v := .slice none 0 0) (by go_simp); have k2_1 := bel_keeps hb2 (b := w.heap.size + 1) (o := 1) (v := .slice none 0 0) (by go_simp); have k2_2 := bel_keeps hb2 (b := w.heap.size + 1 + 1) (o := 0) (v := .slice (some ⟨g1, 0, none⟩) xs.length xs.length) (by go_simp); have k2_3 := bel_keeps hb2 (b := w.heap.size + 1 + 1) (o := 1) (v := .slice none 0 0) (by go_simp); have f2_0 := bel_free hb2 (b := w.heap.size + 1) (o := 0) (by first | omega | (simp; done) | (simp; omega)) (by go_simp); have f2_1 := bel_free hb2 (b := w.heap.size + 1) (o := 1) (by first | omega | (simp; done) | (simp; omega)) (by go_simp); have f2_2 := bel_free hb2 (b := w.heap.size + 1 + 1) (o := 0) (by first | omega | (simp; done) | (simp; omega)) (by go_simp); have f2_3 := bel_free hb2 (b := w.heap.size + 1 + 1) (o := 1) (by first | omega | (simp; done) | (simp; omega)) (by go_simp)
  go_wp2_with fail
  refine bodyPost_ret (v := .agg #[.slice (some ⟨g1, 0, none⟩) xs.length xs.length, .slice (some ⟨g2, 0, none⟩) ys.length ys.length]) (by simp [results, Try.results14, go_sem, k2_0, k2_1]) rfl ⟨g1, g2, rfl, ?_, ?_, by omega, ?_⟩
  · refine (ho1.lo (by simp; omega)).later ?_
    exact (by (repeat (first | with_reducible exact Kp.refl _ _ | (with_reducible refine Kp.below ?_ (by assumption)) | (with_reducible refine Kp.rng ?_ (by assumption) ?_) | (with_reducible refine Kp.alloc ?_ _) | (with_reducible refine Kp.drew ?_) | (with_reducible refine Kp.drewN ?_ _) | (with_reducible refine Kp.setCell ?_ _ ?_))) <;> (first | omega | (simp; done) | (simp; omega)))
  · refine (ho2.lo (by simp; omega)).later ?_
    exact (by (repeat (first | with_reducible exact Kp.refl _ _ | (with_reducible refine Kp.below ?_ (by assumption)) | (with_reducible refine Kp.rng ?_ (by assumption) ?_) | (with_reducible refine Kp.alloc ?_ _) | (with_reducible refine Kp.drew ?_) | (with_reducible refine Kp.drewN ?_ _) | (with_reducible refine Kp.setCell ?_ _ ?_))) <;> (first | omega | (simp; done) | (simp; omega)))
  · exact (by (repeat (first | with_reducible exact Below.refl _ _ | (with_reducible refine bel_next ?_ ?_ (by assumption)) | (with_reducible refine Below.alloc ?_ ?_ _) | (with_reducible refine Below.drew ?_) | (with_reducible refine below_drewN ?_ _) | (with_reducible refine Below.setCell ?_ ?_ _))) <;> (first | omega | (simp; done) | (simp; omega)))

end Go.Proofs.Ytfcijloiebnloaa

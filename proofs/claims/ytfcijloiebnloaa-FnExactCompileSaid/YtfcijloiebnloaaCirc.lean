/- The laws' helpers over circuits. -/
import Derived.Test.YtfcijloiebnloaaGateList
import Derived.Test.YtfcijloiebnloaaList
namespace Go.Proofs.Ytfcijloiebnloaa
open Go.RowKit
set_option linter.unusedVariables false
set_option linter.unusedSimpArgs false

set_option maxHeartbeats 1000000 in
theorem toCircuit_any (xs : List Gt) (ys : List Int) (a1 a2 : Option Addr) (c1 c2 : Nat) (w : World) (hm1 : xs.length ≤ 1048576) (hm2 : ys.length ≤ 1048576) (hr1 : RdC w a1 (gtCells xs)) (hr2 : RdC w a2 (I64 ys)) :
    Calls Try.prog 14 #[.agg #[.slice a1 xs.length c1, .slice a2 ys.length c2]] w fun e w' => ∃ g1 g2, e = .returned (.agg #[.slice (some ⟨g1, 0, none⟩) xs.length xs.length, .slice (some ⟨g2, 0, none⟩) ys.length ys.length]) ∧
      Own w' w.heap.size 109 3 (some ⟨g1, 0, none⟩) xs.length xs.length (gtCells xs) ∧ Own w' w.heap.size 3 1 (some ⟨g2, 0, none⟩) ys.length ys.length (I64 ys) ∧ g1 < g2 ∧ Below w.heap.size w w' := by
  go_enter Try.func14, Try.ntmps14
  go_wp2_with fail
  refine (toGateS_any xs _ _ _ hm1 (hr1.below (by (repeat (first | with_reducible exact Below.refl _ _ | (with_reducible refine bel_next ?_ ?_ (by assumption)) | (with_reducible refine Below.alloc ?_ ?_ _) | (with_reducible refine Below.drew ?_) | (with_reducible refine below_drewN ?_ _) | (with_reducible refine Below.setCell ?_ ?_ _))) <;> (first | omega | (simp; done) | (simp; omega))))).mono ?_
  rintro e w1 ⟨g1, rfl, ho1, l1, l2, hb1⟩
  simp at l1
  have z1 := hb1.size; (try simp at z1); have y1_0 : w.heap.size < w1.heap.size := (by omega); have y1_1 : w.heap.size + 1 < w1.heap.size := (by omega); have y1_2 : w.heap.size + 1 + 1 < w1.heap.size := (by omega); have k1_0 := bel_keeps hb1 (b := w.heap.size) (o := 1) (v := .slice a2 ys.length c2) (by go_simp); have k1_1 := bel_keeps hb1 (b := w.heap.size + 1) (o := 0) (v := .slice none 0 0) (by go_simp); have k1_2 := bel_keeps hb1 (b := w.heap.size + 1) (o := 1) (v := .slice none 0 0) (by go_simp); have k1_3 := bel_keeps hb1 (b := w.heap.size + 1 + 1) (o := 0) (v := .slice none 0 0) (by go_simp); have k1_4 := bel_keeps hb1 (b := w.heap.size + 1 + 1) (o := 1) (v := .slice none 0 0) (by go_simp); have f1_0 := bel_free hb1 (b := w.heap.size + 1) (o := 0) (by first | omega | (simp; done) | (simp; omega)) (by go_simp); have f1_1 := bel_free hb1 (b := w.heap.size + 1) (o := 1) (by first | omega | (simp; done) | (simp; omega)) (by go_simp); have f1_2 := bel_free hb1 (b := w.heap.size + 1 + 1) (o := 0) (by first | omega | (simp; done) | (simp; omega)) (by go_simp); have f1_3 := bel_free hb1 (b := w.heap.size + 1 + 1) (o := 1) (by first | omega | (simp; done) | (simp; omega)) (by go_simp)
  go_wp2_with fail
  refine (toIntS_own ys _ _ _ hm2 (hr2.below (by (repeat (first | with_reducible exact Below.refl _ _ | (with_reducible refine bel_next ?_ ?_ (by assumption)) | (with_reducible refine Below.alloc ?_ ?_ _) | (with_reducible refine Below.drew ?_) | (with_reducible refine below_drewN ?_ _) | (with_reducible refine Below.setCell ?_ ?_ _))) <;> (first | omega | (simp; done) | (simp; omega))))).mono ?_
  rintro e w2 ⟨g2, rfl, ho2, l3, l4, hb2⟩
  simp at l3
  have z2 := hb2.size; (try simp at z2); have y2_0 : w.heap.size + 1 < w2.heap.size := (by omega); have y2_1 : w.heap.size + 1 + 1 < w2.heap.size := (by omega); have k2_0 := bel_keeps hb2 (b := w.heap.size + 1) (o := 0) (v := .slice none 0 0) (by go_simp); have k2_1 := bel_keeps hb2 (b := w.heap.size + 1) (o := 1) (v := .slice none 0 0) (by go_simp); have k2_2 := bel_keeps hb2 (b := w.heap.size + 1 + 1) (o := 0) (v := .slice (some ⟨g1, 0, none⟩) xs.length xs.length) (by go_simp); have k2_3 := bel_keeps hb2 (b := w.heap.size + 1 + 1) (o := 1) (v := .slice none 0 0) (by go_simp); have f2_0 := bel_free hb2 (b := w.heap.size + 1) (o := 0) (by first | omega | (simp; done) | (simp; omega)) (by go_simp); have f2_1 := bel_free hb2 (b := w.heap.size + 1) (o := 1) (by first | omega | (simp; done) | (simp; omega)) (by go_simp); have f2_2 := bel_free hb2 (b := w.heap.size + 1 + 1) (o := 0) (by first | omega | (simp; done) | (simp; omega)) (by go_simp); have f2_3 := bel_free hb2 (b := w.heap.size + 1 + 1) (o := 1) (by first | omega | (simp; done) | (simp; omega)) (by go_simp)
  go_wp2_with fail
  refine bodyPost_ret (v := .agg #[.slice (some ⟨g1, 0, none⟩) xs.length xs.length, .slice (some ⟨g2, 0, none⟩) ys.length ys.length]) (by simp [results, Try.results14, go_sem, k2_0, k2_1]) rfl ⟨g1, g2, rfl, ?_, ?_, by omega, ?_⟩
  · refine (ho1.lo (by simp; omega)).later ?_
    exact (by (repeat (first | with_reducible exact Kp.refl _ _ | (with_reducible refine Kp.below ?_ (by assumption)) | (with_reducible refine Kp.rng ?_ (by assumption) ?_) | (with_reducible refine Kp.alloc ?_ _) | (with_reducible refine Kp.drew ?_) | (with_reducible refine Kp.drewN ?_ _) | (with_reducible refine Kp.setCell ?_ _ ?_))) <;> (first | omega | (simp; done) | (simp; omega)))
  · refine (ho2.lo (by simp; omega)).later ?_
    exact (by (repeat (first | with_reducible exact Kp.refl _ _ | (with_reducible refine Kp.below ?_ (by assumption)) | (with_reducible refine Kp.rng ?_ (by assumption) ?_) | (with_reducible refine Kp.alloc ?_ _) | (with_reducible refine Kp.drew ?_) | (with_reducible refine Kp.drewN ?_ _) | (with_reducible refine Kp.setCell ?_ _ ?_))) <;> (first | omega | (simp; done) | (simp; omega)))
  · exact (by (repeat (first | with_reducible exact Below.refl _ _ | (with_reducible refine bel_next ?_ ?_ (by assumption)) | (with_reducible refine Below.alloc ?_ ?_ _) | (with_reducible refine Below.drew ?_) | (with_reducible refine below_drewN ?_ _) | (with_reducible refine Below.setCell ?_ ?_ _))) <;> (first | omega | (simp; done) | (simp; omega)))

set_option maxHeartbeats 1000000 in
theorem eqCircuit_same (xs : List Gt) (ys : List Int) (a1 a2 b1 b2 : Option Addr) (c1 c2 d1 d2 : Nat) (w : World) (hm1 : xs.length ≤ 1048576) (hm2 : ys.length ≤ 1048576) (hr1 : RdC w a1 (gtCells xs)) (hr2 : RdC w a2 (I64 ys)) (hs1 : RdC w b1 (gtCells xs)) (hs2 : RdC w b2 (I64 ys)) :
    Calls Try.prog 16 #[.agg #[.slice a1 xs.length c1, .slice a2 ys.length c2], .agg #[.slice b1 xs.length d1, .slice b2 ys.length d2]] w fun e w' => e = .returned (.bool true) ∧ Below w.heap.size w w' := by
  go_enter Try.func16, Try.ntmps16
  go_wp2_with fail
  refine (eqGateS_same xs _ _ _ _ _ hm1 (hr1.below (by (repeat (first | with_reducible exact Below.refl _ _ | (with_reducible refine bel_next ?_ ?_ (by assumption)) | (with_reducible refine Below.alloc ?_ ?_ _) | (with_reducible refine Below.drew ?_) | (with_reducible refine below_drewN ?_ _) | (with_reducible refine Below.setCell ?_ ?_ _))) <;> (first | omega | (simp; done) | (simp; omega)))) (hs1.below (by (repeat (first | with_reducible exact Below.refl _ _ | (with_reducible refine bel_next ?_ ?_ (by assumption)) | (with_reducible refine Below.alloc ?_ ?_ _) | (with_reducible refine Below.drew ?_) | (with_reducible refine below_drewN ?_ _) | (with_reducible refine Below.setCell ?_ ?_ _))) <;> (first | omega | (simp; done) | (simp; omega))))).mono ?_
  rintro e w1 ⟨rfl, hb1⟩
  have z1 := hb1.size; (try simp at z1); have y1_0 : w.heap.size < w1.heap.size := (by omega); have y1_1 : w.heap.size + 1 < w1.heap.size := (by omega); have k1_0 := bel_keeps hb1 (b := w.heap.size) (o := 0) (v := .slice a1 xs.length c1) (by go_simp); have k1_1 := bel_keeps hb1 (b := w.heap.size) (o := 1) (v := .slice a2 ys.length c2) (by go_simp); have k1_2 := bel_keeps hb1 (b := w.heap.size + 1) (o := 0) (v := .slice b1 xs.length d1) (by go_simp); have k1_3 := bel_keeps hb1 (b := w.heap.size + 1) (o := 1) (v := .slice b2 ys.length d2) (by go_simp)
  go_wp2_with fail
  refine (eqIntS_same ys _ _ _ _ _ hm2 (hr2.below (by (repeat (first | with_reducible exact Below.refl _ _ | (with_reducible refine bel_next ?_ ?_ (by assumption)) | (with_reducible refine Below.alloc ?_ ?_ _) | (with_reducible refine Below.drew ?_) | (with_reducible refine below_drewN ?_ _) | (with_reducible refine Below.setCell ?_ ?_ _))) <;> (first | omega | (simp; done) | (simp; omega)))) (hs2.below (by (repeat (first | with_reducible exact Below.refl _ _ | (with_reducible refine bel_next ?_ ?_ (by assumption)) | (with_reducible refine Below.alloc ?_ ?_ _) | (with_reducible refine Below.drew ?_) | (with_reducible refine below_drewN ?_ _) | (with_reducible refine Below.setCell ?_ ?_ _))) <;> (first | omega | (simp; done) | (simp; omega))))).mono ?_
  rintro e w1 ⟨rfl, n2, rfl⟩
  go_wp2_with fail
  go_ret
  exact ⟨rfl, (by (repeat (first | with_reducible exact Below.refl _ _ | (with_reducible refine bel_next ?_ ?_ (by assumption)) | (with_reducible refine Below.alloc ?_ ?_ _) | (with_reducible refine Below.drew ?_) | (with_reducible refine below_drewN ?_ _) | (with_reducible refine Below.setCell ?_ ?_ _))) <;> (first | omega | (simp; done) | (simp; omega)))⟩

set_option maxHeartbeats 1000000 in
theorem szCircuit_any (n1 n2 : Nat) (a1 a2 : Option Addr) (c1 c2 : Nat) (w : World) (hm1 : n1 ≤ maxLen) (hm2 : n2 ≤ maxLen) (l : Int) (h0 : 0 ≤ l) (h1 : l ≤ 1048576) :
    Calls Try.prog 12 #[.agg #[.slice a1 n1 c1, .slice a2 n2 c2], .int .i64 l] w fun e w' => e = .returned (.int .i64 (if (n1 : Int) + n2 ≤ l then l - n1 - n2 else -1)) ∧ Below w.heap.size w w' := by
  by_cases q1 : (n1 : Int) ≤ l
  · by_cases q2 : (n1 : Int) + n2 ≤ l
    · rw [if_pos q2]
      have e1 : (if (n1 : Int) ≤ l then l - (n1 : Int) else -1) = l - n1 := if_pos q1
      have e2 : (if (n2 : Int) ≤ l - n1 then l - (n1 : Int) - n2 else -1) = l - n1 - n2 := if_pos (by omega)
      have E1 := Lib.hid e1
      have E2 := Lib.hid e2
      clear e1 e2
      go_enter Try.func12, Try.ntmps12
      go_wp2_with fail
      refine (szGateS_any n1 _ _ l _ hm1 h0 h1).mono ?_
      rintro e w1 ⟨rfl, rfl⟩
      rw [E1.out]
      go_wp2_with fail
      refine (szIntS_any n2 _ _ (l - n1) _ hm2 (by omega) (by omega)).mono ?_
      rintro e w1 ⟨rfl, rfl⟩
      rw [E2.out]
      go_wp2_with fail
      go_ret
      exact ⟨rfl, (by (repeat (first | with_reducible exact Below.refl _ _ | (with_reducible refine bel_next ?_ ?_ (by assumption)) | (with_reducible refine Below.alloc ?_ ?_ _) | (with_reducible refine Below.drew ?_) | (with_reducible refine below_drewN ?_ _) | (with_reducible refine Below.setCell ?_ ?_ _))) <;> (first | omega | (simp; done) | (simp; omega)))⟩
    · rw [if_neg q2]
      have e1 : (if (n1 : Int) ≤ l then l - (n1 : Int) else -1) = l - n1 := if_pos q1
      have e2 : (if (n2 : Int) ≤ l - n1 then l - (n1 : Int) - n2 else -1) = -1 := if_neg (by omega)
      have E1 := Lib.hid e1
      have E2 := Lib.hid e2
      clear e1 e2
      go_enter Try.func12, Try.ntmps12
      go_wp2_with fail
      refine (szGateS_any n1 _ _ l _ hm1 h0 h1).mono ?_
      rintro e w1 ⟨rfl, rfl⟩
      rw [E1.out]
      go_wp2_with fail
      refine (szIntS_any n2 _ _ (l - n1) _ hm2 (by omega) (by omega)).mono ?_
      rintro e w1 ⟨rfl, rfl⟩
      rw [E2.out]
      go_wp2_with fail
      go_ret
      exact ⟨rfl, (by (repeat (first | with_reducible exact Below.refl _ _ | (with_reducible refine bel_next ?_ ?_ (by assumption)) | (with_reducible refine Below.alloc ?_ ?_ _) | (with_reducible refine Below.drew ?_) | (with_reducible refine below_drewN ?_ _) | (with_reducible refine Below.setCell ?_ ?_ _))) <;> (first | omega | (simp; done) | (simp; omega)))⟩
  · rw [if_neg (by omega)]
    have e1 : (if (n1 : Int) ≤ l then l - (n1 : Int) else -1) = -1 := if_neg q1
    have E1 := Lib.hid e1
    clear e1
    go_enter Try.func12, Try.ntmps12
    go_wp2_with fail
    refine (szGateS_any n1 _ _ l _ hm1 h0 h1).mono ?_
    rintro e w1 ⟨rfl, rfl⟩
    rw [E1.out]
    go_wp2_with fail
    go_ret
    exact ⟨rfl, (by (repeat (first | with_reducible exact Below.refl _ _ | (with_reducible refine bel_next ?_ ?_ (by assumption)) | (with_reducible refine Below.alloc ?_ ?_ _) | (with_reducible refine Below.drew ?_) | (with_reducible refine below_drewN ?_ _) | (with_reducible refine Below.setCell ?_ ?_ _))) <;> (first | omega | (simp; done) | (simp; omega)))⟩

end Go.Proofs.Ytfcijloiebnloaa

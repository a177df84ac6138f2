/- Contracts of FlowNew and StateNew, and the laws on them. -/
import Derived.Test.YtjibbkigjcncdaaState
namespace Go.Proofs.Ytjibbkigjcncdaa
open Go.RowKit

set_option maxHeartbeats 1000000 in
theorem sFlowNew_any (w : World) :
    Calls Try.prog 22 #[] w fun e w' => ∃ g, e = .returned (.agg #[.slice (some ⟨g, 0, none⟩) 8 8, .slice none 0 0]) ∧ Own w' w.heap.size 3 1 (some ⟨g, 0, none⟩) 8 8 (I64 (List.replicate 8 0)) ∧ Below w.heap.size w w' := by
  obtain ⟨i0, hi, hz0, hz1, hz2⟩ := info_parts info_int
  go_enter Try.func22, Try.ntmps22
  go_wp2_with (at_make; refine wpList_make_full _ rfl _ _ 33 rfl (w.heap.size + 1) 3 i0 (.int .i64 0) 1 Try.underlying33 hi hz0 hz1 .i64 .i64 _ _ 8 rfl rfl rfl rfl ?b2 ?b3 ?b4 ?_)
  case b2 => rw [hz2]; omega
  case b3 => unfold maxLen; omega
  case b4 => simp
  intro w1 hown1 hgr1
  have hb1 : Below (w.heap.size + 1) (w.alloc (.cells #[.slice none 0 0, .slice none 0 0] 35)) w1 := (Below.refl _ _).grown hgr1 (by simp) (by simp)
  have z1 := hb1.size
  simp at z1
  have y1 : w.heap.size < w1.heap.size := by omega
  have k0 : w1.cell? ⟨w.heap.size, 0, none⟩ = some (.slice none 0 0) := (hb1.cell (p := ⟨w.heap.size, 0, none⟩) (by simp)).trans (by go_simp)
  have k1 : w1.cell? ⟨w.heap.size, 1, none⟩ = some (.slice none 0 0) := (hb1.cell (p := ⟨w.heap.size, 1, none⟩) (by simp)).trans (by go_simp)
  have f0 : w1.frozen? ⟨w.heap.size, 0, none⟩ = false := (hb1.frozen (p := ⟨w.heap.size, 0, none⟩) (by simp)).trans (by go_simp)
  have f1 : w1.frozen? ⟨w.heap.size, 1, none⟩ = false := (hb1.frozen (p := ⟨w.heap.size, 1, none⟩) (by simp)).trans (by go_simp)
  have e8 : (madeCells #[Value.int .i64 0] 8).toList = I64 (List.replicate 8 0) := made_ints 8
  have ho : Own w1 (w.heap.size + 1) 3 1 (some ⟨w.heap.size + 1, 0, none⟩) 8 8 (I64 (List.replicate 8 0)) := by rw [← e8]; exact hown1
  obtain ⟨g1, g2⟩ := ho.ge
  clear hown1 hgr1 e8
  go_wp2_with fail
  refine bodyPost_ret (v := .agg #[.slice (some ⟨w.heap.size + 1, 0, none⟩) 8 8, .slice none 0 0]) (by simp [results, Try.results22, go_sem, k0, k1]) rfl ⟨_, rfl, ?_, ?_⟩
  · exact (ho.lo (by omega)).later (by (repeat (first | with_reducible exact Kp.refl _ _ | (with_reducible refine Kp.below ?_ (by assumption)) | (with_reducible refine Kp.rng ?_ (by assumption) ?_) | (with_reducible refine Kp.alloc ?_ _) | (with_reducible refine Kp.drew ?_) | (with_reducible refine Kp.drewN ?_ _) | (with_reducible refine Kp.setCell ?_ _ ?_))) <;> (first | omega | (simp; done) | (simp; omega)))
  · exact (by (repeat (first | with_reducible exact Below.refl _ _ | (with_reducible refine bel_next ?_ ?_ (by assumption)) | (with_reducible refine Below.alloc ?_ ?_ _) | (with_reducible refine Below.drew ?_) | (with_reducible refine below_drewN ?_ _) | (with_reducible refine Below.setCell ?_ ?_ _))) <;> (first | omega | (simp; done) | (simp; omega)))
set_option maxHeartbeats 1000000 in
theorem iFlowNew_any (w : World) :
    Calls Try.prog 23 #[] w fun e w' => ∃ g, e = .returned (.agg #[.slice (some ⟨g, 0, none⟩) 8 8, .slice none 0 0]) ∧ Own w' w.heap.size 3 1 (some ⟨g, 0, none⟩) 8 8 (I64 (List.replicate 8 0)) ∧ Below w.heap.size w w' := by
  obtain ⟨i0, hi, hz0, hz1, hz2⟩ := info_parts info_int
  go_enter Try.func23, Try.ntmps23
  go_wp2_with (at_make; refine wpList_make_full _ rfl _ _ 33 rfl (w.heap.size + 1) 3 i0 (.int .i64 0) 1 Try.underlying33 hi hz0 hz1 .i64 .i64 _ _ 8 rfl rfl rfl rfl ?b2 ?b3 ?b4 ?_)
  case b2 => rw [hz2]; omega
  case b3 => unfold maxLen; omega
  case b4 => simp
  intro w1 hown1 hgr1
  have hb1 : Below (w.heap.size + 1) (w.alloc (.cells #[.slice none 0 0, .slice none 0 0] 35)) w1 := (Below.refl _ _).grown hgr1 (by simp) (by simp)
  have z1 := hb1.size
  simp at z1
  have y1 : w.heap.size < w1.heap.size := by omega
  have k0 : w1.cell? ⟨w.heap.size, 0, none⟩ = some (.slice none 0 0) := (hb1.cell (p := ⟨w.heap.size, 0, none⟩) (by simp)).trans (by go_simp)
  have k1 : w1.cell? ⟨w.heap.size, 1, none⟩ = some (.slice none 0 0) := (hb1.cell (p := ⟨w.heap.size, 1, none⟩) (by simp)).trans (by go_simp)
  have f0 : w1.frozen? ⟨w.heap.size, 0, none⟩ = false := (hb1.frozen (p := ⟨w.heap.size, 0, none⟩) (by simp)).trans (by go_simp)
  have f1 : w1.frozen? ⟨w.heap.size, 1, none⟩ = false := (hb1.frozen (p := ⟨w.heap.size, 1, none⟩) (by simp)).trans (by go_simp)
  have e8 : (madeCells #[Value.int .i64 0] 8).toList = I64 (List.replicate 8 0) := made_ints 8
  have ho : Own w1 (w.heap.size + 1) 3 1 (some ⟨w.heap.size + 1, 0, none⟩) 8 8 (I64 (List.replicate 8 0)) := by rw [← e8]; exact hown1
  obtain ⟨g1, g2⟩ := ho.ge
  clear hown1 hgr1 e8
  go_wp2_with fail
  refine bodyPost_ret (v := .agg #[.slice (some ⟨w.heap.size + 1, 0, none⟩) 8 8, .slice none 0 0]) (by simp [results, Try.results23, go_sem, k0, k1]) rfl ⟨_, rfl, ?_, ?_⟩
  · exact (ho.lo (by omega)).later (by (repeat (first | with_reducible exact Kp.refl _ _ | (with_reducible refine Kp.below ?_ (by assumption)) | (with_reducible refine Kp.rng ?_ (by assumption) ?_) | (with_reducible refine Kp.alloc ?_ _) | (with_reducible refine Kp.drew ?_) | (with_reducible refine Kp.drewN ?_ _) | (with_reducible refine Kp.setCell ?_ _ ?_))) <;> (first | omega | (simp; done) | (simp; omega)))
  · exact (by (repeat (first | with_reducible exact Below.refl _ _ | (with_reducible refine bel_next ?_ ?_ (by assumption)) | (with_reducible refine Below.alloc ?_ ?_ _) | (with_reducible refine Below.drew ?_) | (with_reducible refine below_drewN ?_ _) | (with_reducible refine Below.setCell ?_ ?_ _))) <;> (first | omega | (simp; done) | (simp; omega)))
set_option maxHeartbeats 1000000 in
theorem sStateNew_any (w : World) :
    Calls Try.prog 27 #[] w fun e w' => ∃ g, e = .returned (.agg #[.slice (some ⟨g, 0, none⟩) 8 8, .slice none 0 0]) ∧ Own w' w.heap.size 3 1 (some ⟨g, 0, none⟩) 8 8 (I64 (List.replicate 8 0)) ∧ Below w.heap.size w w' := by
  obtain ⟨i0, hi, hz0, hz1, hz2⟩ := info_parts info_int
  go_enter Try.func27, Try.ntmps27
  go_wp2_with (at_make; refine wpList_make_full _ rfl _ _ 33 rfl (w.heap.size + 1) 3 i0 (.int .i64 0) 1 Try.underlying33 hi hz0 hz1 .i64 .i64 _ _ 8 rfl rfl rfl rfl ?b2 ?b3 ?b4 ?_)
  case b2 => rw [hz2]; omega
  case b3 => unfold maxLen; omega
  case b4 => simp
  intro w1 hown1 hgr1
  have hb1 : Below (w.heap.size + 1) (w.alloc (.cells #[.slice none 0 0, .slice none 0 0] 40)) w1 := (Below.refl _ _).grown hgr1 (by simp) (by simp)
  have z1 := hb1.size
  simp at z1
  have y1 : w.heap.size < w1.heap.size := by omega
  have k0 : w1.cell? ⟨w.heap.size, 0, none⟩ = some (.slice none 0 0) := (hb1.cell (p := ⟨w.heap.size, 0, none⟩) (by simp)).trans (by go_simp)
  have k1 : w1.cell? ⟨w.heap.size, 1, none⟩ = some (.slice none 0 0) := (hb1.cell (p := ⟨w.heap.size, 1, none⟩) (by simp)).trans (by go_simp)
  have f0 : w1.frozen? ⟨w.heap.size, 0, none⟩ = false := (hb1.frozen (p := ⟨w.heap.size, 0, none⟩) (by simp)).trans (by go_simp)
  have f1 : w1.frozen? ⟨w.heap.size, 1, none⟩ = false := (hb1.frozen (p := ⟨w.heap.size, 1, none⟩) (by simp)).trans (by go_simp)
  have e8 : (madeCells #[Value.int .i64 0] 8).toList = I64 (List.replicate 8 0) := made_ints 8
  have ho : Own w1 (w.heap.size + 1) 3 1 (some ⟨w.heap.size + 1, 0, none⟩) 8 8 (I64 (List.replicate 8 0)) := by rw [← e8]; exact hown1
  obtain ⟨g1, g2⟩ := ho.ge
  clear hown1 hgr1 e8
  go_wp2_with fail
  refine bodyPost_ret (v := .agg #[.slice (some ⟨w.heap.size + 1, 0, none⟩) 8 8, .slice none 0 0]) (by simp [results, Try.results27, go_sem, k0, k1]) rfl ⟨_, rfl, ?_, ?_⟩
  · exact (ho.lo (by omega)).later (by (repeat (first | with_reducible exact Kp.refl _ _ | (with_reducible refine Kp.below ?_ (by assumption)) | (with_reducible refine Kp.rng ?_ (by assumption) ?_) | (with_reducible refine Kp.alloc ?_ _) | (with_reducible refine Kp.drew ?_) | (with_reducible refine Kp.drewN ?_ _) | (with_reducible refine Kp.setCell ?_ _ ?_))) <;> (first | omega | (simp; done) | (simp; omega)))
  · exact (by (repeat (first | with_reducible exact Below.refl _ _ | (with_reducible refine bel_next ?_ ?_ (by assumption)) | (with_reducible refine Below.alloc ?_ ?_ _) | (with_reducible refine Below.drew ?_) | (with_reducible refine below_drewN ?_ _) | (with_reducible refine Below.setCell ?_ ?_ _))) <;> (first | omega | (simp; done) | (simp; omega)))
set_option maxHeartbeats 1000000 in
theorem iStateNew_any (w : World) :
    Calls Try.prog 28 #[] w fun e w' => ∃ g, e = .returned (.agg #[.slice (some ⟨g, 0, none⟩) 8 8, .slice none 0 0]) ∧ Own w' w.heap.size 3 1 (some ⟨g, 0, none⟩) 8 8 (I64 (List.replicate 8 0)) ∧ Below w.heap.size w w' := by
  obtain ⟨i0, hi, hz0, hz1, hz2⟩ := info_parts info_int
  go_enter Try.func28, Try.ntmps28
  go_wp2_with (at_make; refine wpList_make_full _ rfl _ _ 33 rfl (w.heap.size + 1) 3 i0 (.int .i64 0) 1 Try.underlying33 hi hz0 hz1 .i64 .i64 _ _ 8 rfl rfl rfl rfl ?b2 ?b3 ?b4 ?_)
  case b2 => rw [hz2]; omega
  case b3 => unfold maxLen; omega
  case b4 => simp
  intro w1 hown1 hgr1
  have hb1 : Below (w.heap.size + 1) (w.alloc (.cells #[.slice none 0 0, .slice none 0 0] 40)) w1 := (Below.refl _ _).grown hgr1 (by simp) (by simp)
  have z1 := hb1.size
  simp at z1
  have y1 : w.heap.size < w1.heap.size := by omega
  have k0 : w1.cell? ⟨w.heap.size, 0, none⟩ = some (.slice none 0 0) := (hb1.cell (p := ⟨w.heap.size, 0, none⟩) (by simp)).trans (by go_simp)
  have k1 : w1.cell? ⟨w.heap.size, 1, none⟩ = some (.slice none 0 0) := (hb1.cell (p := ⟨w.heap.size, 1, none⟩) (by simp)).trans (by go_simp)
  have f0 : w1.frozen? ⟨w.heap.size, 0, none⟩ = false := (hb1.frozen (p := ⟨w.heap.size, 0, none⟩) (by simp)).trans (by go_simp)
  have f1 : w1.frozen? ⟨w.heap.size, 1, none⟩ = false := (hb1.frozen (p := ⟨w.heap.size, 1, none⟩) (by simp)).trans (by go_simp)
  have e8 : (madeCells #[Value.int .i64 0] 8).toList = I64 (List.replicate 8 0) := made_ints 8
  have ho : Own w1 (w.heap.size + 1) 3 1 (some ⟨w.heap.size + 1, 0, none⟩) 8 8 (I64 (List.replicate 8 0)) := by rw [← e8]; exact hown1
  obtain ⟨g1, g2⟩ := ho.ge
  clear hown1 hgr1 e8
  go_wp2_with fail
  refine bodyPost_ret (v := .agg #[.slice (some ⟨w.heap.size + 1, 0, none⟩) 8 8, .slice none 0 0]) (by simp [results, Try.results28, go_sem, k0, k1]) rfl ⟨_, rfl, ?_, ?_⟩
  · exact (ho.lo (by omega)).later (by (repeat (first | with_reducible exact Kp.refl _ _ | (with_reducible refine Kp.below ?_ (by assumption)) | (with_reducible refine Kp.rng ?_ (by assumption) ?_) | (with_reducible refine Kp.alloc ?_ _) | (with_reducible refine Kp.drew ?_) | (with_reducible refine Kp.drewN ?_ _) | (with_reducible refine Kp.setCell ?_ _ ?_))) <;> (first | omega | (simp; done) | (simp; omega)))
  · exact (by (repeat (first | with_reducible exact Below.refl _ _ | (with_reducible refine bel_next ?_ ?_ (by assumption)) | (with_reducible refine Below.alloc ?_ ?_ _) | (with_reducible refine Below.drew ?_) | (with_reducible refine below_drewN ?_ _) | (with_reducible refine Below.setCell ?_ ?_ _))) <;> (first | omega | (simp; done) | (simp; omega)))
set_option maxHeartbeats 2000000 in
theorem walk_FnExactFlowNew (w : World) : Calls Try.prog 8 #[] w fun e w' => e = .returned (.bool true) ∧ Below w.heap.size w w' := by
  go_enter Try.func8, Try.ntmps8
  go_wp2_with fail
  refine (sFlowNew_any _).mono ?_
  rintro e w1 ⟨g1, rfl, ho1, hb1⟩
  obtain ⟨l1, u1⟩ := ho1.ge
  have z1 := hb1.size
  try simp at z1
  go_wp2_with fail
  refine (iFlowNew_any _).mono ?_
  rintro e w2 ⟨g2, rfl, ho2, hb2⟩
  obtain ⟨l2, u2⟩ := ho2.ge
  simp at l2
  have z2 := hb2.size; (try simp at z2); have y2_0 : w1.heap.size < w2.heap.size := (by omega); have k2_0 := bel_keeps hb2 (b := w1.heap.size) (o := 0) (v := .slice (some ⟨g1, 0, none⟩) 8 8) (by go_simp); have k2_1 := bel_keeps hb2 (b := w1.heap.size) (o := 1) (v := .slice none 0 0) (by go_simp)
  go_wp2_with fail
  refine (eqFlow_same (List.replicate 8 0) [] _ _ _ _ _ _ _ _ _ (by simp) (by simp) (ho2.later (by (repeat (first | with_reducible exact Kp.refl _ _ | (with_reducible refine Kp.below ?_ (by assumption)) | (with_reducible refine Kp.rng ?_ (by assumption) ?_) | (with_reducible refine Kp.alloc ?_ _) | (with_reducible refine Kp.drew ?_) | (with_reducible refine Kp.drewN ?_ _) | (with_reducible refine Kp.setCell ?_ _ ?_))) <;> (first | omega | (simp; done) | (simp; omega)))).rd (.nil _ _) (ho1.later (by (repeat (first | with_reducible exact Kp.refl _ _ | (with_reducible refine Kp.below ?_ (by assumption)) | (with_reducible refine Kp.rng ?_ (by assumption) ?_) | (with_reducible refine Kp.alloc ?_ _) | (with_reducible refine Kp.drew ?_) | (with_reducible refine Kp.drewN ?_ _) | (with_reducible refine Kp.setCell ?_ _ ?_))) <;> (first | omega | (simp; done) | (simp; omega)))).rd (.nil _ _)).mono ?_
  rintro e w3 ⟨rfl, hb3⟩
  have z3 := hb3.size; (try simp at z3); have y3_0 : w1.heap.size < w3.heap.size := (by omega); have y3_1 : w2.heap.size < w3.heap.size := (by omega); have k3_0 := bel_keeps hb3 (b := w1.heap.size) (o := 0) (v := .slice (some ⟨g1, 0, none⟩) 8 8) (by go_simp); have k3_1 := bel_keeps hb3 (b := w1.heap.size) (o := 1) (v := .slice none 0 0) (by go_simp); have k3_2 := bel_keeps hb3 (b := w2.heap.size) (o := 0) (v := .slice (some ⟨g2, 0, none⟩) 8 8) (by go_simp); have k3_3 := bel_keeps hb3 (b := w2.heap.size) (o := 1) (v := .slice none 0 0) (by go_simp)
  go_wp2_with fail
  refine (markFlow_any 8 0 _ [] _ _ g2 (g2 + 1) (g2 + 1) 1 _ _ _ _ _ (by omega) (by omega) (by omega) (by omega) (ho2.later (by (repeat (first | with_reducible exact Kp.refl _ _ | (with_reducible refine Kp.below ?_ (by assumption)) | (with_reducible refine Kp.rng ?_ (by assumption) ?_) | (with_reducible refine Kp.alloc ?_ _) | (with_reducible refine Kp.drew ?_) | (with_reducible refine Kp.drewN ?_ _) | (with_reducible refine Kp.setCell ?_ _ ?_))) <;> (first | omega | (simp; done) | (simp; omega)))) (Own.nil _ 0 _ _) (by intro a ha; obtain rfl : _ = a := Option.some.inj ha; simp) (by intro a ha; cases ha) (by omega) (by omega) (by omega)).mono ?_
  rintro e w4 ⟨rfl, ho4, _, hb4, hr4⟩
  have z4 := hb4.size
  have y4_0 : w1.heap.size < w4.heap.size := (by omega); have y4_1 : w2.heap.size < w4.heap.size := (by omega); have k4_0 : w4.cell? ⟨w1.heap.size, 0, none⟩ = some (.slice (some ⟨g1, 0, none⟩) 8 8) := hr4.keeps (by omega) (by go_simp); have k4_1 : w4.cell? ⟨w1.heap.size, 1, none⟩ = some (.slice none 0 0) := hr4.keeps (by omega) (by go_simp); have k4_2 : w4.cell? ⟨w2.heap.size, 0, none⟩ = some (.slice (some ⟨g2, 0, none⟩) 8 8) := hr4.keeps (by omega) (by go_simp); have k4_3 : w4.cell? ⟨w2.heap.size, 1, none⟩ = some (.slice none 0 0) := hr4.keeps (by omega) (by go_simp)
  go_wp2_with fail
  refine (heldFlow_any 8 0 1 _ _ _ _ _ (by omega) (by omega) (by omega) (by omega) (ho4.later (by (repeat (first | with_reducible exact Kp.refl _ _ | (with_reducible refine Kp.below ?_ (by assumption)) | (with_reducible refine Kp.rng ?_ (by assumption) ?_) | (with_reducible refine Kp.alloc ?_ _) | (with_reducible refine Kp.drew ?_) | (with_reducible refine Kp.drewN ?_ _) | (with_reducible refine Kp.setCell ?_ _ ?_))) <;> (first | omega | (simp; done) | (simp; omega)))).rd (.nil _ _)).mono ?_
  rintro e w5 ⟨rfl, hb5⟩
  have z5 := hb5.size; (try simp at z5); have y5_0 : w1.heap.size < w5.heap.size := (by omega); have y5_1 : w2.heap.size < w5.heap.size := (by omega); have k5_0 := bel_keeps hb5 (b := w1.heap.size) (o := 0) (v := .slice (some ⟨g1, 0, none⟩) 8 8) (by go_simp); have k5_1 := bel_keeps hb5 (b := w1.heap.size) (o := 1) (v := .slice none 0 0) (by go_simp); have k5_2 := bel_keeps hb5 (b := w2.heap.size) (o := 0) (v := .slice (some ⟨g2, 0, none⟩) 8 8) (by go_simp); have k5_3 := bel_keeps hb5 (b := w2.heap.size) (o := 1) (v := .slice none 0 0) (by go_simp)
  go_wp2_with fail
  refine (iFlowNew_any _).mono ?_
  rintro e w6 ⟨g3, rfl, ho6, hb6⟩
  have z6 := hb6.size; (try simp at z6); have y6_0 : w1.heap.size < w6.heap.size := (by omega); have y6_1 : w2.heap.size < w6.heap.size := (by omega); have k6_0 := bel_keeps hb6 (b := w1.heap.size) (o := 0) (v := .slice (some ⟨g1, 0, none⟩) 8 8) (by go_simp); have k6_1 := bel_keeps hb6 (b := w1.heap.size) (o := 1) (v := .slice none 0 0) (by go_simp); have k6_2 := bel_keeps hb6 (b := w2.heap.size) (o := 0) (v := .slice (some ⟨g2, 0, none⟩) 8 8) (by go_simp); have k6_3 := bel_keeps hb6 (b := w2.heap.size) (o := 1) (v := .slice none 0 0) (by go_simp)
  go_wp2_with fail
  refine (eqFlow_same (List.replicate 8 0) [] _ _ _ _ _ _ _ _ _ (by simp) (by simp) (ho6.later (by (repeat (first | with_reducible exact Kp.refl _ _ | (with_reducible refine Kp.below ?_ (by assumption)) | (with_reducible refine Kp.rng ?_ (by assumption) ?_) | (with_reducible refine Kp.alloc ?_ _) | (with_reducible refine Kp.drew ?_) | (with_reducible refine Kp.drewN ?_ _) | (with_reducible refine Kp.setCell ?_ _ ?_))) <;> (first | omega | (simp; done) | (simp; omega)))).rd (.nil _ _) (ho1.later (by (repeat (first | with_reducible exact Kp.refl _ _ | (with_reducible refine Kp.below ?_ (by assumption)) | (with_reducible refine Kp.rng ?_ (by assumption) ?_) | (with_reducible refine Kp.alloc ?_ _) | (with_reducible refine Kp.drew ?_) | (with_reducible refine Kp.drewN ?_ _) | (with_reducible refine Kp.setCell ?_ _ ?_))) <;> (first | omega | (simp; done) | (simp; omega)))).rd (.nil _ _)).mono ?_
  rintro e w7 ⟨rfl, hb7⟩
  have z7 := hb7.size; (try simp at z7); have y7_0 : w1.heap.size < w7.heap.size := (by omega); have y7_1 : w2.heap.size < w7.heap.size := (by omega); have k7_0 := bel_keeps hb7 (b := w1.heap.size) (o := 0) (v := .slice (some ⟨g1, 0, none⟩) 8 8) (by go_simp); have k7_1 := bel_keeps hb7 (b := w1.heap.size) (o := 1) (v := .slice none 0 0) (by go_simp); have k7_2 := bel_keeps hb7 (b := w2.heap.size) (o := 0) (v := .slice (some ⟨g2, 0, none⟩) 8 8) (by go_simp); have k7_3 := bel_keeps hb7 (b := w2.heap.size) (o := 1) (v := .slice none 0 0) (by go_simp)
  go_wp2_with fail
  refine (heldFlow_any 8 0 1 _ _ _ _ _ (by omega) (by omega) (by omega) (by omega) (ho4.later (by (repeat (first | with_reducible exact Kp.refl _ _ | (with_reducible refine Kp.below ?_ (by assumption)) | (with_reducible refine Kp.rng ?_ (by assumption) ?_) | (with_reducible refine Kp.alloc ?_ _) | (with_reducible refine Kp.drew ?_) | (with_reducible refine Kp.drewN ?_ _) | (with_reducible refine Kp.setCell ?_ _ ?_))) <;> (first | omega | (simp; done) | (simp; omega)))).rd (.nil _ _)).mono ?_
  rintro e w8 ⟨rfl, hb8⟩
  have z8 := hb8.size
  try simp at z8
  go_wp2_with fail
  go_ret
  exact ⟨rfl, (by (repeat (first | with_reducible exact Below.refl _ _ | (with_reducible refine bel_next ?_ ?_ (by assumption)) | (with_reducible refine Below.alloc ?_ ?_ _) | (with_reducible refine Below.drew ?_) | (with_reducible refine below_drewN ?_ _) | (with_reducible refine Below.setCell ?_ ?_ _))) <;> (first | omega | (simp; done) | (simp; omega)))⟩
set_option maxHeartbeats 2000000 in
theorem walk_FnExactStateNew (w : World) : Calls Try.prog 9 #[] w fun e w' => e = .returned (.bool true) ∧ Below w.heap.size w w' := by
  go_enter Try.func9, Try.ntmps9
  go_wp2_with fail
  refine (sStateNew_any _).mono ?_
  rintro e w1 ⟨g1, rfl, ho1, hb1⟩
  obtain ⟨l1, u1⟩ := ho1.ge
  have z1 := hb1.size
  try simp at z1
  go_wp2_with fail
  refine (iStateNew_any _).mono ?_
  rintro e w2 ⟨g2, rfl, ho2, hb2⟩
  obtain ⟨l2, u2⟩ := ho2.ge
  simp at l2
  have z2 := hb2.size; (try simp at z2); have y2_0 : w1.heap.size < w2.heap.size := (by omega); have k2_0 := bel_keeps hb2 (b := w1.heap.size) (o := 0) (v := .slice (some ⟨g1, 0, none⟩) 8 8) (by go_simp); have k2_1 := bel_keeps hb2 (b := w1.heap.size) (o := 1) (v := .slice none 0 0) (by go_simp)
  go_wp2_with fail
  refine (eqState_same (List.replicate 8 0) [] _ _ _ _ _ _ _ _ _ (by simp) (by simp) (ho2.later (by (repeat (first | with_reducible exact Kp.refl _ _ | (with_reducible refine Kp.below ?_ (by assumption)) | (with_reducible refine Kp.rng ?_ (by assumption) ?_) | (with_reducible refine Kp.alloc ?_ _) | (with_reducible refine Kp.drew ?_) | (with_reducible refine Kp.drewN ?_ _) | (with_reducible refine Kp.setCell ?_ _ ?_))) <;> (first | omega | (simp; done) | (simp; omega)))).rd (.nil _ _) (ho1.later (by (repeat (first | with_reducible exact Kp.refl _ _ | (with_reducible refine Kp.below ?_ (by assumption)) | (with_reducible refine Kp.rng ?_ (by assumption) ?_) | (with_reducible refine Kp.alloc ?_ _) | (with_reducible refine Kp.drew ?_) | (with_reducible refine Kp.drewN ?_ _) | (with_reducible refine Kp.setCell ?_ _ ?_))) <;> (first | omega | (simp; done) | (simp; omega)))).rd (.nil _ _)).mono ?_
  rintro e w3 ⟨rfl, hb3⟩
  have z3 := hb3.size; (try simp at z3); have y3_0 : w1.heap.size < w3.heap.size := (by omega); have y3_1 : w2.heap.size < w3.heap.size := (by omega); have k3_0 := bel_keeps hb3 (b := w1.heap.size) (o := 0) (v := .slice (some ⟨g1, 0, none⟩) 8 8) (by go_simp); have k3_1 := bel_keeps hb3 (b := w1.heap.size) (o := 1) (v := .slice none 0 0) (by go_simp); have k3_2 := bel_keeps hb3 (b := w2.heap.size) (o := 0) (v := .slice (some ⟨g2, 0, none⟩) 8 8) (by go_simp); have k3_3 := bel_keeps hb3 (b := w2.heap.size) (o := 1) (v := .slice none 0 0) (by go_simp)
  go_wp2_with fail
  refine (markState_any 8 0 _ [] _ _ g2 (g2 + 1) (g2 + 1) 1 _ _ _ _ _ (by omega) (by omega) (by omega) (by omega) (ho2.later (by (repeat (first | with_reducible exact Kp.refl _ _ | (with_reducible refine Kp.below ?_ (by assumption)) | (with_reducible refine Kp.rng ?_ (by assumption) ?_) | (with_reducible refine Kp.alloc ?_ _) | (with_reducible refine Kp.drew ?_) | (with_reducible refine Kp.drewN ?_ _) | (with_reducible refine Kp.setCell ?_ _ ?_))) <;> (first | omega | (simp; done) | (simp; omega)))) (Own.nil _ 0 _ _) (by intro a ha; obtain rfl : _ = a := Option.some.inj ha; simp) (by intro a ha; cases ha) (by omega) (by omega) (by omega)).mono ?_
  rintro e w4 ⟨rfl, ho4, _, hb4, hr4⟩
  have z4 := hb4.size
  have y4_0 : w1.heap.size < w4.heap.size := (by omega); have y4_1 : w2.heap.size < w4.heap.size := (by omega); have k4_0 : w4.cell? ⟨w1.heap.size, 0, none⟩ = some (.slice (some ⟨g1, 0, none⟩) 8 8) := hr4.keeps (by omega) (by go_simp); have k4_1 : w4.cell? ⟨w1.heap.size, 1, none⟩ = some (.slice none 0 0) := hr4.keeps (by omega) (by go_simp); have k4_2 : w4.cell? ⟨w2.heap.size, 0, none⟩ = some (.slice (some ⟨g2, 0, none⟩) 8 8) := hr4.keeps (by omega) (by go_simp); have k4_3 : w4.cell? ⟨w2.heap.size, 1, none⟩ = some (.slice none 0 0) := hr4.keeps (by omega) (by go_simp)
  go_wp2_with fail
  refine (heldState_any 8 0 1 _ _ _ _ _ (by omega) (by omega) (by omega) (by omega) (ho4.later (by (repeat (first | with_reducible exact Kp.refl _ _ | (with_reducible refine Kp.below ?_ (by assumption)) | (with_reducible refine Kp.rng ?_ (by assumption) ?_) | (with_reducible refine Kp.alloc ?_ _) | (with_reducible refine Kp.drew ?_) | (with_reducible refine Kp.drewN ?_ _) | (with_reducible refine Kp.setCell ?_ _ ?_))) <;> (first | omega | (simp; done) | (simp; omega)))).rd (.nil _ _)).mono ?_
  rintro e w5 ⟨rfl, hb5⟩
  have z5 := hb5.size; (try simp at z5); have y5_0 : w1.heap.size < w5.heap.size := (by omega); have y5_1 : w2.heap.size < w5.heap.size := (by omega); have k5_0 := bel_keeps hb5 (b := w1.heap.size) (o := 0) (v := .slice (some ⟨g1, 0, none⟩) 8 8) (by go_simp); have k5_1 := bel_keeps hb5 (b := w1.heap.size) (o := 1) (v := .slice none 0 0) (by go_simp); have k5_2 := bel_keeps hb5 (b := w2.heap.size) (o := 0) (v := .slice (some ⟨g2, 0, none⟩) 8 8) (by go_simp); have k5_3 := bel_keeps hb5 (b := w2.heap.size) (o := 1) (v := .slice none 0 0) (by go_simp)
  go_wp2_with fail
  refine (iStateNew_any _).mono ?_
  rintro e w6 ⟨g3, rfl, ho6, hb6⟩
  have z6 := hb6.size; (try simp at z6); have y6_0 : w1.heap.size < w6.heap.size := (by omega); have y6_1 : w2.heap.size < w6.heap.size := (by omega); have k6_0 := bel_keeps hb6 (b := w1.heap.size) (o := 0) (v := .slice (some ⟨g1, 0, none⟩) 8 8) (by go_simp); have k6_1 := bel_keeps hb6 (b := w1.heap.size) (o := 1) (v := .slice none 0 0) (by go_simp); have k6_2 := bel_keeps hb6 (b := w2.heap.size) (o := 0) (v := .slice (some ⟨g2, 0, none⟩) 8 8) (by go_simp); have k6_3 := bel_keeps hb6 (b := w2.heap.size) (o := 1) (v := .slice none 0 0) (by go_simp)
  go_wp2_with fail
  refine (eqState_same (List.replicate 8 0) [] _ _ _ _ _ _ _ _ _ (by simp) (by simp) (ho6.later (by (repeat (first | with_reducible exact Kp.refl _ _ | (with_reducible refine Kp.below ?_ (by assumption)) | (with_reducible refine Kp.rng ?_ (by assumption) ?_) | (with_reducible refine Kp.alloc ?_ _) | (with_reducible refine Kp.drew ?_) | (with_reducible refine Kp.drewN ?_ _) | (with_reducible refine Kp.setCell ?_ _ ?_))) <;> (first | omega | (simp; done) | (simp; omega)))).rd (.nil _ _) (ho1.later (by (repeat (first | with_reducible exact Kp.refl _ _ | (with_reducible refine Kp.below ?_ (by assumption)) | (with_reducible refine Kp.rng ?_ (by assumption) ?_) | (with_reducible refine Kp.alloc ?_ _) | (with_reducible refine Kp.drew ?_) | (with_reducible refine Kp.drewN ?_ _) | (with_reducible refine Kp.setCell ?_ _ ?_))) <;> (first | omega | (simp; done) | (simp; omega)))).rd (.nil _ _)).mono ?_
  rintro e w7 ⟨rfl, hb7⟩
  have z7 := hb7.size; (try simp at z7); have y7_0 : w1.heap.size < w7.heap.size := (by omega); have y7_1 : w2.heap.size < w7.heap.size := (by omega); have k7_0 := bel_keeps hb7 (b := w1.heap.size) (o := 0) (v := .slice (some ⟨g1, 0, none⟩) 8 8) (by go_simp); have k7_1 := bel_keeps hb7 (b := w1.heap.size) (o := 1) (v := .slice none 0 0) (by go_simp); have k7_2 := bel_keeps hb7 (b := w2.heap.size) (o := 0) (v := .slice (some ⟨g2, 0, none⟩) 8 8) (by go_simp); have k7_3 := bel_keeps hb7 (b := w2.heap.size) (o := 1) (v := .slice none 0 0) (by go_simp)
  go_wp2_with fail
  refine (heldState_any 8 0 1 _ _ _ _ _ (by omega) (by omega) (by omega) (by omega) (ho4.later (by (repeat (first | with_reducible exact Kp.refl _ _ | (with_reducible refine Kp.below ?_ (by assumption)) | (with_reducible refine Kp.rng ?_ (by assumption) ?_) | (with_reducible refine Kp.alloc ?_ _) | (with_reducible refine Kp.drew ?_) | (with_reducible refine Kp.drewN ?_ _) | (with_reducible refine Kp.setCell ?_ _ ?_))) <;> (first | omega | (simp; done) | (simp; omega)))).rd (.nil _ _)).mono ?_
  rintro e w8 ⟨rfl, hb8⟩
  have z8 := hb8.size
  try simp at z8
  go_wp2_with fail
  go_ret
  exact ⟨rfl, (by (repeat (first | with_reducible exact Below.refl _ _ | (with_reducible refine bel_next ?_ ?_ (by assumption)) | (with_reducible refine Below.alloc ?_ ?_ _) | (with_reducible refine Below.drew ?_) | (with_reducible refine below_drewN ?_ _) | (with_reducible refine Below.setCell ?_ ?_ _))) <;> (first | omega | (simp; done) | (simp; omega)))⟩
end Go.Proofs.Ytjibbkigjcncdaa

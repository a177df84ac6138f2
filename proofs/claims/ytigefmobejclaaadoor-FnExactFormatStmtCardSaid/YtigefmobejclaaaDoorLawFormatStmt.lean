/- The walk of the law FnExactFormatStmt. -/
import Derived.Test.YtigefmobejclaaaDoorFmtD
import Derived.Test.YtigefmobejclaaaDoorStmtList
namespace Go.Proofs.YtigefmobejclaaaDoor
open Go.RowKit
set_option linter.unusedVariables false

set_option maxHeartbeats 4000000 in
theorem walk_FnExactFormatStmt (w : World) (s : St) (hw : LaidW w) :
    Calls Tryd.prog 3 #[stV s] w fun e w' => e = .returned (.bool true) ∧ Below w.heap.size w w' := by
  have HS := Lib.hid (fun W => sFormatStmt_any s W)
  have HI := Lib.hid (fun W h => iFormatStmt_any s W h)
  have HT := Lib.hid (fun W => toStmt_any s W)
  obtain ⟨t, ht⟩ : ∃ t, t = bA (fmtO s) := ⟨_, rfl⟩
  obtain ⟨b, hb⟩ : ∃ b, b = stOk s := ⟨_, rfl⟩
  rw [← ht, ← hb] at HS HI
  clear ht hb
  obtain ⟨op, dst, a, bb, c, n⟩ := s
  unfold stV at HS HI HT ⊢
  simp only at HS HI HT ⊢
  go_enter Tryd.func3, Tryd.ntmps3
  go_wp2_with fail
  refine (HT.out _).mono ?_
  rintro e w1 ⟨rfl, hb1⟩
  have z1 := hb1.size; (try simp at z1); have y1_0 : w.heap.size < w1.heap.size := (by omega); have k1_0 := bel_keeps hb1 (b := w.heap.size) (o := 0) (v := .int .i64 op) (by go_simp); have k1_1 := bel_keeps hb1 (b := w.heap.size) (o := 1) (v := .int .i64 dst) (by go_simp); have k1_2 := bel_keeps hb1 (b := w.heap.size) (o := 2) (v := .int .i64 a) (by go_simp); have k1_3 := bel_keeps hb1 (b := w.heap.size) (o := 3) (v := .int .i64 bb) (by go_simp); have k1_4 := bel_keeps hb1 (b := w.heap.size) (o := 4) (v := .int .i64 c) (by go_simp); have k1_5 := bel_keeps hb1 (b := w.heap.size) (o := 5) (v := .int .i64 n) (by go_simp)
  go_wp2_with fail
  refine (HS.out _).mono ?_
  rintro e w2 ⟨rfl, hb2⟩
  have z2 := hb2.size; (try simp at z2); have y2_0 : w.heap.size < w2.heap.size := (by omega); have k2_0 := bel_keeps hb2 (b := w.heap.size) (o := 0) (v := .int .i64 op) (by go_simp); have k2_1 := bel_keeps hb2 (b := w.heap.size) (o := 1) (v := .int .i64 dst) (by go_simp); have k2_2 := bel_keeps hb2 (b := w.heap.size) (o := 2) (v := .int .i64 a) (by go_simp); have k2_3 := bel_keeps hb2 (b := w.heap.size) (o := 3) (v := .int .i64 bb) (by go_simp); have k2_4 := bel_keeps hb2 (b := w.heap.size) (o := 4) (v := .int .i64 c) (by go_simp); have k2_5 := bel_keeps hb2 (b := w.heap.size) (o := 5) (v := .int .i64 n) (by go_simp)
  go_wp2_with fail
  refine (HT.out _).mono ?_
  rintro e w3 ⟨rfl, hb3⟩
  have z3 := hb3.size
  go_wp2_with fail
  refine (HI.out _ (hw.below (by (repeat (first | with_reducible exact Below.refl _ _ | (with_reducible refine bel_next ?_ ?_ (by assumption)) | (with_reducible refine Below.alloc ?_ ?_ _) | (with_reducible refine Below.drew ?_) | (with_reducible refine below_drewN ?_ _) | (with_reducible refine Below.setCell ?_ ?_ _))) <;> (first | omega | (simp; done) | (simp; omega))))).mono ?_
  rintro e w4 ⟨rfl, hb4⟩
  have z4 := hb4.size
  go_wp2_with fail
  go_ret
  exact ⟨rfl, (by (repeat (first | with_reducible exact Below.refl _ _ | (with_reducible refine bel_next ?_ ?_ (by assumption)) | (with_reducible refine Below.alloc ?_ ?_ _) | (with_reducible refine Below.drew ?_) | (with_reducible refine below_drewN ?_ _) | (with_reducible refine Below.setCell ?_ ?_ _))) <;> (first | omega | (simp; done) | (simp; omega)))⟩
end Go.Proofs.YtigefmobejclaaaDoor

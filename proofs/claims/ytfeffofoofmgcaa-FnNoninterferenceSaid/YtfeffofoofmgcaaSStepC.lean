/- StepState: sout. -/
import Derived.Test.YtfeffofoofmgcaaStepS
import Derived.StillTailTactics
import Derived.Deep.RegionLaw
namespace Go.Proofs.Ytfeffofoofmgcaa
open Go.RowKit
set_option linter.unusedVariables false
set_option linter.unusedSimpArgs false

set_option maxRecDepth 20000 in
set_option maxHeartbeats 8000000 in
theorem sStep_out (rs os : List Int) (a1 a2 : Option Addr) (c1 c2 : Nat) (dst a b c n : Int) (rr : List Rw) (ai : Option Addr) (ci : Nat) (w : World) (hm1 : rs.length ≤ 1048576) (hm2 : os.length ≤ 1048576) (hr1 : RdC w a1 (I64 rs)) (hr2 : RdC w a2 (I64 os)) (hmr : rr.length ≤ 1048576) (hml : rowsLe rr) (hri : RdR w ai rr) (h1 : stateOk rs os = true) (h2 : plainB ⟨11, dst, a, b, c, n⟩ = true) (h3 : inputsOk (rr.map Rw.xs) = true) :
    Calls Try.prog 54 #[.agg #[.slice a1 rs.length c1, .slice a2 os.length c2], stV ⟨11, dst, a, b, c, n⟩, .slice ai rr.length ci] w fun e w' => ∃ g1 d1 g2 d2, e = .returned (.agg #[.slice (some ⟨g1, 0, none⟩) (stepRegs rs os ⟨11, dst, a, b, c, n⟩ (rr.map Rw.xs)).length d1, .slice (some ⟨g2, 0, none⟩) (stepOuts rs os ⟨11, dst, a, b, c, n⟩ (rr.map Rw.xs)).length d2]) ∧
      Own w' w.heap.size 3 1 (some ⟨g1, 0, none⟩) (stepRegs rs os ⟨11, dst, a, b, c, n⟩ (rr.map Rw.xs)).length d1 (I64 (stepRegs rs os ⟨11, dst, a, b, c, n⟩ (rr.map Rw.xs))) ∧ Own w' w.heap.size 3 1 (some ⟨g2, 0, none⟩) (stepOuts rs os ⟨11, dst, a, b, c, n⟩ (rr.map Rw.xs)).length d2 (I64 (stepOuts rs os ⟨11, dst, a, b, c, n⟩ (rr.map Rw.xs))) ∧ g1 ≠ g2 ∧ Below w.heap.size w w' := by
  have hM1 : rs.length ≤ maxLen := by unfold maxLen; omega
  have hM2 : os.length ≤ maxLen := by unfold maxLen; omega
  have hMr : rr.length ≤ maxLen := by unfold maxLen; omega
  have HN1 := Lib.hid (rd_none hr1)
  have HN2 := Lib.hid (rd_none hr2)
  have HR1 := Lib.hid hr1
  have HR2 := Lib.hid hr2
  have HRI := Lib.hid hri
  clear hr1 hr2 hri
  have hB : stepB ⟨11, dst, a, b, c, n⟩ rs os (rr.map Rw.xs) = true := by simp [stepB, h1, h2, h3]
  have hst : stOk ⟨11, dst, a, b, c, n⟩ = true := by have h := h2; simp [plainB] at h; first | exact h | exact h.1
  
  have hh := stok_regs hst
  simp only at hh
  obtain ⟨o1, o13, r0, r1, r2, r3, r4, r5, r6, r7⟩ := hh
  have h8 := stateOk_len h1
  have h5 := inputs_len h3
  have e1 : (stepRegs rs os ⟨11, dst, a, b, c, n⟩ (rr.map Rw.xs)) = rs := by simp [stepRegs]
  have e2 : (stepOuts rs os ⟨11, dst, a, b, c, n⟩ (rr.map Rw.xs)) = os ++ [rgd rs a] := by simp [stepOuts, hB]
  rw [e1, e2]
  clear hB e1 e2
  have H8 := Lib.hid h8
  have H5 := Lib.hid h5
  have HST := Lib.hid h1
  have HS := Lib.hid hst
  have HIN := Lib.hid h3
  clear h1 h2 h3 hst h8 h5
  have hta : a.toNat < rs.length := by have := H8.out; omega
  have hxa : rgd rs a = rs[a.toNat] := rgd_at hta
  obtain ⟨xa, hqa⟩ : ∃ x, x = rs[a.toNat] := ⟨_, rfl⟩
  rw [← hqa] at hxa
  have hia : a < (rs.length : Int) := by have := H8.out; omega
  rw [hxa]
  clear hxa
  have HQa := Lib.hid hqa
  clear hqa
  unfold stV
  go_enter Try.func54, Try.ntmps54
  go_wp2_with fail
  obtain ⟨w0, hw0⟩ : ∃ W, W = ((w.alloc (.cells #[.slice a1 rs.length c1, .slice a2 os.length c2] 57)).alloc (.cells #[.int .i64 11, .int .i64 dst, .int .i64 a, .int .i64 b, .int .i64 c, .int .i64 n] 38)).alloc (.cells #[.slice none 0 0, .slice none 0 0] 57) := ⟨_, rfl⟩
  rw [← hw0]
  have hb0 : Below w.heap.size w w0 := by rw [hw0]; exact (by (repeat (first | with_reducible exact Below.refl _ _ | (with_reducible refine bel_next ?_ ?_ (by assumption)) | (with_reducible refine Below.alloc ?_ ?_ _) | (with_reducible refine Below.drew ?_) | (with_reducible refine below_drewN ?_ _) | (with_reducible refine Below.setCell ?_ ?_ _))) <;> (first | omega | (simp; done) | (simp; omega)))
  have z0 : w.heap.size + 1 + 1 < w0.heap.size := by rw [hw0]; simp
  have k0_0 : w0.cell? ⟨w.heap.size, 0, none⟩ = some (.slice a1 rs.length c1) := by rw [hw0]; go_simp
  have k0_1 : w0.cell? ⟨w.heap.size, 1, none⟩ = some (.slice a2 os.length c2) := by rw [hw0]; go_simp
  have k0_2 : w0.cell? ⟨w.heap.size + 1, 0, none⟩ = some (.int .i64 11) := by rw [hw0]; go_simp
  have k0_3 : w0.cell? ⟨w.heap.size + 1, 1, none⟩ = some (.int .i64 dst) := by rw [hw0]; go_simp
  have k0_4 : w0.cell? ⟨w.heap.size + 1, 2, none⟩ = some (.int .i64 a) := by rw [hw0]; go_simp
  have k0_5 : w0.cell? ⟨w.heap.size + 1, 3, none⟩ = some (.int .i64 b) := by rw [hw0]; go_simp
  have k0_6 : w0.cell? ⟨w.heap.size + 1, 4, none⟩ = some (.int .i64 c) := by rw [hw0]; go_simp
  have k0_7 : w0.cell? ⟨w.heap.size + 1, 5, none⟩ = some (.int .i64 n) := by rw [hw0]; go_simp
  have k0_8 : w0.cell? ⟨w.heap.size + 1 + 1, 0, none⟩ = some (.slice none 0 0) := by rw [hw0]; go_simp
  have k0_9 : w0.cell? ⟨w.heap.size + 1 + 1, 1, none⟩ = some (.slice none 0 0) := by rw [hw0]; go_simp
  have f0_0 : w0.frozen? ⟨w.heap.size + 1 + 1, 0, none⟩ = false := by rw [hw0]; go_simp
  have f0_1 : w0.frozen? ⟨w.heap.size + 1 + 1, 1, none⟩ = false := by rw [hw0]; go_simp
  clear hw0
  refine (l12Copy_any rs os a1 a2 c1 c2 _ (by omega) (by omega) (HR1.out.below (by (repeat (first | with_reducible exact Below.refl _ _ | (with_reducible refine bel_next ?_ ?_ (by assumption)) | (with_reducible refine Below.alloc ?_ ?_ _) | (with_reducible refine Below.drew ?_) | (with_reducible refine below_drewN ?_ _) | (with_reducible refine Below.setCell ?_ ?_ _))) <;> (first | omega | (simp; done) | (simp; omega)))) (HR2.out.below (by (repeat (first | with_reducible exact Below.refl _ _ | (with_reducible refine bel_next ?_ ?_ (by assumption)) | (with_reducible refine Below.alloc ?_ ?_ _) | (with_reducible refine Below.drew ?_) | (with_reducible refine below_drewN ?_ _) | (with_reducible refine Below.setCell ?_ ?_ _))) <;> (first | omega | (simp; done) | (simp; omega)))) HN1.out HN2.out).mono ?_
  rintro e w1 ⟨g1, d1, g2, d2, rfl, ho1, ho2, hne, hb1⟩
  have z1 := hb1.size
  (try simp at z1)
  have y1_0 : w.heap.size < w1.heap.size := (by omega)
  have y1_1 : w.heap.size + 1 < w1.heap.size := (by omega)
  have y1_2 : w.heap.size + 1 + 1 < w1.heap.size := (by omega)
  have k1_0 := bel_keeps hb1 (b := w.heap.size) (o := 0) (v := .slice a1 rs.length c1) (by first | (go_simp; done) | assumption)
  have k1_1 := bel_keeps hb1 (b := w.heap.size) (o := 1) (v := .slice a2 os.length c2) (by first | (go_simp; done) | assumption)
  have k1_2 := bel_keeps hb1 (b := w.heap.size + 1) (o := 0) (v := .int .i64 11) (by first | (go_simp; done) | assumption)
  have k1_3 := bel_keeps hb1 (b := w.heap.size + 1) (o := 1) (v := .int .i64 dst) (by first | (go_simp; done) | assumption)
  have k1_4 := bel_keeps hb1 (b := w.heap.size + 1) (o := 2) (v := .int .i64 a) (by first | (go_simp; done) | assumption)
  have k1_5 := bel_keeps hb1 (b := w.heap.size + 1) (o := 3) (v := .int .i64 b) (by first | (go_simp; done) | assumption)
  have k1_6 := bel_keeps hb1 (b := w.heap.size + 1) (o := 4) (v := .int .i64 c) (by first | (go_simp; done) | assumption)
  have k1_7 := bel_keeps hb1 (b := w.heap.size + 1) (o := 5) (v := .int .i64 n) (by first | (go_simp; done) | assumption)
  have k1_8 := bel_keeps hb1 (b := w.heap.size + 1 + 1) (o := 0) (v := .slice none 0 0) (by first | (go_simp; done) | assumption)
  have k1_9 := bel_keeps hb1 (b := w.heap.size + 1 + 1) (o := 1) (v := .slice none 0 0) (by first | (go_simp; done) | assumption)
  have f1_0 := bel_free hb1 (b := w.heap.size + 1 + 1) (o := 0) (by first | omega | (simp; done) | (simp; omega)) (by first | (go_simp; done) | assumption)
  have f1_1 := bel_free hb1 (b := w.heap.size + 1 + 1) (o := 1) (by first | omega | (simp; done) | (simp; omega)) (by first | (go_simp; done) | assumption)
  clear k0_0 k0_1 k0_2 k0_3 k0_4 k0_5 k0_6 k0_7 k0_8 k0_9 f0_0 f0_1
  have lg1 := ho1.ge
  have lg2 := ho2.ge
  have hO1 := Lib.hid ho1
  have hO2 := Lib.hid ho2
  clear ho1 ho2
  go_wp2_with fail
  obtain ⟨w2, hw2⟩ : ∃ W, W = w1.alloc (.cells #[.slice (some ⟨g1, 0, none⟩) rs.length d1, .slice (some ⟨g2, 0, none⟩) os.length d2] 57) := ⟨_, rfl⟩
  rw [← hw2]
  have hb2 : Below w1.heap.size w1 w2 := by rw [hw2]; exact (Below.refl _ _).alloc (Nat.le_refl _) _
  have x2 : w1.heap.size < w2.heap.size := by rw [hw2]; simp
  have z2 := hb2.size
  (try simp at z2)
  have y2_0 : w.heap.size < w2.heap.size := (by omega)
  have y2_1 : w.heap.size + 1 < w2.heap.size := (by omega)
  have y2_2 : w.heap.size + 1 + 1 < w2.heap.size := (by omega)
  have k2_0 := bel_keeps hb2 (b := w.heap.size) (o := 0) (v := .slice a1 rs.length c1) (by first | (go_simp; done) | assumption)
  have k2_1 := bel_keeps hb2 (b := w.heap.size) (o := 1) (v := .slice a2 os.length c2) (by first | (go_simp; done) | assumption)
  have k2_2 := bel_keeps hb2 (b := w.heap.size + 1) (o := 0) (v := .int .i64 11) (by first | (go_simp; done) | assumption)
  have k2_3 := bel_keeps hb2 (b := w.heap.size + 1) (o := 1) (v := .int .i64 dst) (by first | (go_simp; done) | assumption)
  have k2_4 := bel_keeps hb2 (b := w.heap.size + 1) (o := 2) (v := .int .i64 a) (by first | (go_simp; done) | assumption)
  have k2_5 := bel_keeps hb2 (b := w.heap.size + 1) (o := 3) (v := .int .i64 b) (by first | (go_simp; done) | assumption)
  have k2_6 := bel_keeps hb2 (b := w.heap.size + 1) (o := 4) (v := .int .i64 c) (by first | (go_simp; done) | assumption)
  have k2_7 := bel_keeps hb2 (b := w.heap.size + 1) (o := 5) (v := .int .i64 n) (by first | (go_simp; done) | assumption)
  have k2_8 := bel_keeps hb2 (b := w.heap.size + 1 + 1) (o := 0) (v := .slice none 0 0) (by first | (go_simp; done) | assumption)
  have k2_9 := bel_keeps hb2 (b := w.heap.size + 1 + 1) (o := 1) (v := .slice none 0 0) (by first | (go_simp; done) | assumption)
  have f2_0 := bel_free hb2 (b := w.heap.size + 1 + 1) (o := 0) (by first | omega | (simp; done) | (simp; omega)) (by first | (go_simp; done) | assumption)
  have f2_1 := bel_free hb2 (b := w.heap.size + 1 + 1) (o := 1) (by first | omega | (simp; done) | (simp; omega)) (by first | (go_simp; done) | assumption)
  clear k1_0 k1_1 k1_2 k1_3 k1_4 k1_5 k1_6 k1_7 k1_8 k1_9 f1_0 f1_1
  have kb2_0 : w2.cell? ⟨w1.heap.size, 0, none⟩ = some (.slice (some ⟨g1, 0, none⟩) rs.length d1) := by rw [hw2]; go_simp
  have kb2_1 : w2.cell? ⟨w1.heap.size, 1, none⟩ = some (.slice (some ⟨g2, 0, none⟩) os.length d2) := by rw [hw2]; go_simp
  have kf2_0 : w2.frozen? ⟨w1.heap.size, 0, none⟩ = false := by rw [hw2]; go_simp
  have kf2_1 : w2.frozen? ⟨w1.heap.size, 1, none⟩ = false := by rw [hw2]; go_simp
  clear hw2
  go_wp2_with fail
  refine (sStateOk_any rs os _ _ _ _ _ hM1 hM2 (HR1.out.below (by (repeat (first | with_reducible exact Below.refl _ _ | (with_reducible refine bel_next ?_ ?_ (by assumption)) | (with_reducible refine Below.alloc ?_ ?_ _) | (with_reducible refine Below.drew ?_) | (with_reducible refine below_drewN ?_ _) | (with_reducible refine Below.setCell ?_ ?_ _))) <;> (first | omega | (simp; done) | (simp; omega)))) (HR2.out.below (by (repeat (first | with_reducible exact Below.refl _ _ | (with_reducible refine bel_next ?_ ?_ (by assumption)) | (with_reducible refine Below.alloc ?_ ?_ _) | (with_reducible refine Below.drew ?_) | (with_reducible refine below_drewN ?_ _) | (with_reducible refine Below.setCell ?_ ?_ _))) <;> (first | omega | (simp; done) | (simp; omega))))).mono ?_
  rintro e w3 ⟨rfl, hb3⟩
  have z3 := hb3.size
  (try simp at z3)
  have y3_0 : w.heap.size < w3.heap.size := (by omega)
  have y3_1 : w.heap.size + 1 < w3.heap.size := (by omega)
  have y3_2 : w.heap.size + 1 + 1 < w3.heap.size := (by omega)
  have y3_3 : w1.heap.size < w3.heap.size := (by omega)
  have k3_0 := bel_keeps hb3 (b := w.heap.size) (o := 0) (v := .slice a1 rs.length c1) (by first | (go_simp; done) | assumption)
  have k3_1 := bel_keeps hb3 (b := w.heap.size) (o := 1) (v := .slice a2 os.length c2) (by first | (go_simp; done) | assumption)
  have k3_2 := bel_keeps hb3 (b := w.heap.size + 1) (o := 0) (v := .int .i64 11) (by first | (go_simp; done) | assumption)
  have k3_3 := bel_keeps hb3 (b := w.heap.size + 1) (o := 1) (v := .int .i64 dst) (by first | (go_simp; done) | assumption)
  have k3_4 := bel_keeps hb3 (b := w.heap.size + 1) (o := 2) (v := .int .i64 a) (by first | (go_simp; done) | assumption)
  have k3_5 := bel_keeps hb3 (b := w.heap.size + 1) (o := 3) (v := .int .i64 b) (by first | (go_simp; done) | assumption)
  have k3_6 := bel_keeps hb3 (b := w.heap.size + 1) (o := 4) (v := .int .i64 c) (by first | (go_simp; done) | assumption)
  have k3_7 := bel_keeps hb3 (b := w.heap.size + 1) (o := 5) (v := .int .i64 n) (by first | (go_simp; done) | assumption)
  have k3_8 := bel_keeps hb3 (b := w.heap.size + 1 + 1) (o := 0) (v := .slice none 0 0) (by first | (go_simp; done) | assumption)
  have k3_9 := bel_keeps hb3 (b := w.heap.size + 1 + 1) (o := 1) (v := .slice none 0 0) (by first | (go_simp; done) | assumption)
  have k3_10 := bel_keeps hb3 (b := w1.heap.size) (o := 0) (v := .slice (some ⟨g1, 0, none⟩) rs.length d1) (by first | (go_simp; done) | assumption)
  have k3_11 := bel_keeps hb3 (b := w1.heap.size) (o := 1) (v := .slice (some ⟨g2, 0, none⟩) os.length d2) (by first | (go_simp; done) | assumption)
  have f3_0 := bel_free hb3 (b := w.heap.size + 1 + 1) (o := 0) (by first | omega | (simp; done) | (simp; omega)) (by first | (go_simp; done) | assumption)
  have f3_1 := bel_free hb3 (b := w.heap.size + 1 + 1) (o := 1) (by first | omega | (simp; done) | (simp; omega)) (by first | (go_simp; done) | assumption)
  have f3_2 := bel_free hb3 (b := w1.heap.size) (o := 0) (by first | omega | (simp; done) | (simp; omega)) (by first | (go_simp; done) | assumption)
  have f3_3 := bel_free hb3 (b := w1.heap.size) (o := 1) (by first | omega | (simp; done) | (simp; omega)) (by first | (go_simp; done) | assumption)
  clear k2_0 k2_1 k2_2 k2_3 k2_4 k2_5 k2_6 k2_7 k2_8 k2_9 kb2_0 kb2_1 f2_0 f2_1 kf2_0 kf2_1
  rw [HST.out]
  go_wp2_with fail
  refine (sStmtOk_any ⟨11, dst, a, b, c, n⟩ _).mono ?_
  rintro e w4 ⟨rfl, hb4⟩
  have z4 := hb4.size
  (try simp at z4)
  have y4_0 : w.heap.size < w4.heap.size := (by omega)
  have y4_1 : w.heap.size + 1 < w4.heap.size := (by omega)
  have y4_2 : w.heap.size + 1 + 1 < w4.heap.size := (by omega)
  have y4_3 : w1.heap.size < w4.heap.size := (by omega)
  have k4_0 := bel_keeps hb4 (b := w.heap.size) (o := 0) (v := .slice a1 rs.length c1) (by first | (go_simp; done) | assumption)
  have k4_1 := bel_keeps hb4 (b := w.heap.size) (o := 1) (v := .slice a2 os.length c2) (by first | (go_simp; done) | assumption)
  have k4_2 := bel_keeps hb4 (b := w.heap.size + 1) (o := 0) (v := .int .i64 11) (by first | (go_simp; done) | assumption)
  have k4_3 := bel_keeps hb4 (b := w.heap.size + 1) (o := 1) (v := .int .i64 dst) (by first | (go_simp; done) | assumption)
  have k4_4 := bel_keeps hb4 (b := w.heap.size + 1) (o := 2) (v := .int .i64 a) (by first | (go_simp; done) | assumption)
  have k4_5 := bel_keeps hb4 (b := w.heap.size + 1) (o := 3) (v := .int .i64 b) (by first | (go_simp; done) | assumption)
  have k4_6 := bel_keeps hb4 (b := w.heap.size + 1) (o := 4) (v := .int .i64 c) (by first | (go_simp; done) | assumption)
  have k4_7 := bel_keeps hb4 (b := w.heap.size + 1) (o := 5) (v := .int .i64 n) (by first | (go_simp; done) | assumption)
  have k4_8 := bel_keeps hb4 (b := w.heap.size + 1 + 1) (o := 0) (v := .slice none 0 0) (by first | (go_simp; done) | assumption)
  have k4_9 := bel_keeps hb4 (b := w.heap.size + 1 + 1) (o := 1) (v := .slice none 0 0) (by first | (go_simp; done) | assumption)
  have k4_10 := bel_keeps hb4 (b := w1.heap.size) (o := 0) (v := .slice (some ⟨g1, 0, none⟩) rs.length d1) (by first | (go_simp; done) | assumption)
  have k4_11 := bel_keeps hb4 (b := w1.heap.size) (o := 1) (v := .slice (some ⟨g2, 0, none⟩) os.length d2) (by first | (go_simp; done) | assumption)
  have f4_0 := bel_free hb4 (b := w.heap.size + 1 + 1) (o := 0) (by first | omega | (simp; done) | (simp; omega)) (by first | (go_simp; done) | assumption)
  have f4_1 := bel_free hb4 (b := w.heap.size + 1 + 1) (o := 1) (by first | omega | (simp; done) | (simp; omega)) (by first | (go_simp; done) | assumption)
  have f4_2 := bel_free hb4 (b := w1.heap.size) (o := 0) (by first | omega | (simp; done) | (simp; omega)) (by first | (go_simp; done) | assumption)
  have f4_3 := bel_free hb4 (b := w1.heap.size) (o := 1) (by first | omega | (simp; done) | (simp; omega)) (by first | (go_simp; done) | assumption)
  clear k3_0 k3_1 k3_2 k3_3 k3_4 k3_5 k3_6 k3_7 k3_8 k3_9 k3_10 k3_11 f3_0 f3_1 f3_2 f3_3
  rw [HS.out]
  go_wp2_with fail
  refine (sInputsOk_any rr _ _ _ hMr hml (HRI.out.below (by (repeat (first | with_reducible exact Below.refl _ _ | (with_reducible refine bel_next ?_ ?_ (by assumption)) | (with_reducible refine Below.alloc ?_ ?_ _) | (with_reducible refine Below.drew ?_) | (with_reducible refine below_drewN ?_ _) | (with_reducible refine Below.setCell ?_ ?_ _))) <;> (first | omega | (simp; done) | (simp; omega))))).mono ?_
  rintro e _ ⟨rfl, rfl⟩
  rw [HIN.out]
  obtain ⟨bba, ooa, haaa, hcca⟩ := (show RdC w4 a1 (I64 rs) from HR1.out.below (by (repeat (first | with_reducible exact Below.refl _ _ | (with_reducible refine bel_next ?_ ?_ (by assumption)) | (with_reducible refine Below.alloc ?_ ?_ _) | (with_reducible refine Below.drew ?_) | (with_reducible refine below_drewN ?_ _) | (with_reducible refine Below.setCell ?_ ?_ _))) <;> (first | omega | (simp; done) | (simp; omega)))).at a.toNat (by have := H8.out; omega)
  have cca := hcca a.toNat (by have := H8.out; omega)
  rw [← HQa.out] at cca
  have lta := lt_of_cell cca
  subst haaa
  clear hcca
  have hab : bba < w.heap.size := by rcases HR1.out with h | ⟨b, o, h, hc⟩ <;> first | (have hz : rs.length = 0 := (by simpa using congrArg List.length h); have := H8.out; omega) | (simp only [Option.some.injEq, Addr.mk.injEq, and_true] at h; obtain ⟨rfl, rfl⟩ := h; exact lt_of_cell (hc 0 (by have := H8.out; simp; omega)))
  go_wp2_with fail
  go_region_law (refine step_push _ rfl _ _ rfl (w0.heap.size) g2 os.length d2 os xa w4.heap.size 1 (by rfl) (by rfl) (hO2.out.later (by (repeat (first | with_reducible exact Kp.refl _ _ | (with_reducible refine Kp.rng ?_ (by assumption) ?_) | (with_reducible refine Kp.below ?_ (by assumption)) | (with_reducible refine Kp.grown ?_ (by assumption) ?_) | (with_reducible refine Kp.alloc ?_ _) | (with_reducible refine Kp.drew ?_) | (with_reducible refine Kp.drewN ?_ _) | (with_reducible refine Kp.setCell ?_ _ ?_))) <;> (first | omega | (simp; done) | (simp; omega)))) (by go_simp) (by omega) (by first | omega | (simp; done) | (simp; omega)) ?_; intro g4 d4 w4 ho4 hb4 hg4 hat4; (try simp at hat4); have z4 := hb4.size; (try simp at z4); have y4 := hg4.size; (try simp at y4); have m4_0 := grown_cell hg4 (b := w1.heap.size) (o := 0) (x := .slice (some ⟨g1, 0, none⟩) rs.length d1) (by first | (simp; done) | (simp; omega) | omega) (by go_simp); have m4_1 := grown_cell hg4 (b := w1.heap.size) (o := 1) (x := .slice (some ⟨g2, 0, none⟩) os.length d2) (by first | (simp; done) | (simp; omega) | omega) (by go_simp); have m4_2 := grown_cell hg4 (b := w.heap.size + 1 + 1) (o := 0) (x := .slice none 0 0) (by first | (simp; done) | (simp; omega) | omega) (by go_simp); have m4_3 := grown_cell hg4 (b := w.heap.size + 1 + 1) (o := 1) (x := .slice none 0 0) (by first | (simp; done) | (simp; omega) | omega) (by go_simp); have p4_0 := grown_free hg4 (b := w1.heap.size) (o := 0) (by first | (simp; done) | (simp; omega) | omega) (by first | (simp; done) | (simp; omega) | omega) (by go_simp); have p4_1 := grown_free hg4 (b := w1.heap.size) (o := 1) (by first | (simp; done) | (simp; omega) | omega) (by first | (simp; done) | (simp; omega) | omega) (by go_simp); have p4_2 := grown_free hg4 (b := w.heap.size + 1 + 1) (o := 0) (by first | (simp; done) | (simp; omega) | omega) (by first | (simp; done) | (simp; omega) | omega) (by go_simp); have p4_3 := grown_free hg4 (b := w.heap.size + 1 + 1) (o := 1) (by first | (simp; done) | (simp; omega) | omega) (by first | (simp; done) | (simp; omega) | omega) (by go_simp); have l4 := ho4.ge; have hO4 := Lib.hid ho4; clear ho4)
  all_goals
    go_wp2_with fail
    refine (l12Copy_n rs (os ++ [xa]) rs.length (os.length + 1) _ _ _ _ _ rfl (by simp) (by omega) (by omega) (hO1.out.later (by (repeat (first | with_reducible exact Kp.refl _ _ | (with_reducible refine Kp.rng ?_ (by assumption) ?_) | (with_reducible refine Kp.below ?_ (by assumption)) | (with_reducible refine Kp.grown ?_ (by assumption) ?_) | (with_reducible refine Kp.alloc ?_ _) | (with_reducible refine Kp.drew ?_) | (with_reducible refine Kp.drewN ?_ _) | (with_reducible refine Kp.setCell ?_ _ ?_))) <;> (first | omega | (simp; done) | (simp; omega)))).rd (hO4.out.later (by (repeat (first | with_reducible exact Kp.refl _ _ | (with_reducible refine Kp.rng ?_ (by assumption) ?_) | (with_reducible refine Kp.below ?_ (by assumption)) | (with_reducible refine Kp.grown ?_ (by assumption) ?_) | (with_reducible refine Kp.alloc ?_ _) | (with_reducible refine Kp.drew ?_) | (with_reducible refine Kp.drewN ?_ _) | (with_reducible refine Kp.setCell ?_ _ ?_))) <;> (first | omega | (simp; done) | (simp; omega)))).rd (by intro h; cases h) (by intro h; cases h)).mono ?_
    rintro e w6' ⟨g5, d5, g6, d6, rfl, ho5, ho6, hne5, hb6'⟩
    have z6' := hb6'.size
    (try simp at z6')
    have e6_0 := bel_keeps hb6' (b := w.heap.size + 1 + 1) (o := 0) (v := .slice none 0 0) (by first | (go_simp; done) | assumption)
    have e7_0 := bel_free hb6' (b := w.heap.size + 1 + 1) (o := 0) (by first | omega | (simp; done) | (simp; omega)) (by first | (go_simp; done) | assumption)
    have e6_1 := bel_keeps hb6' (b := w.heap.size + 1 + 1) (o := 1) (v := .slice none 0 0) (by first | (go_simp; done) | assumption)
    have e7_1 := bel_free hb6' (b := w.heap.size + 1 + 1) (o := 1) (by first | omega | (simp; done) | (simp; omega)) (by first | (go_simp; done) | assumption)
    have l5 := ho5.ge
    have l6 := ho6.ge
    (try simp at l5)
    (try simp at l6)
    have HO5 := Lib.hid ho5
    have HO6 := Lib.hid ho6
    clear ho5 ho6
    go_wp2_with fail
    refine bodyPost_ret (v := .agg #[.slice (some ⟨g5, 0, none⟩) (rs.length) d5, .slice (some ⟨g6, 0, none⟩) (os.length + 1) d6]) (by simp [results, Try.results54, go_sem, e6_0, e6_1, e7_0, e7_1]) rfl ⟨g5, d5, g6, d6, by simp, ?_, ?_, hne5, ?_⟩
    · simpa using (HO5.out.lo (lo' := w.heap.size) (by first | omega | (simp; done) | (simp; omega))).later (by (repeat (first | with_reducible exact Kp.refl _ _ | (with_reducible refine Kp.rng ?_ (by assumption) ?_) | (with_reducible refine Kp.below ?_ (by assumption)) | (with_reducible refine Kp.grown ?_ (by assumption) ?_) | (with_reducible refine Kp.alloc ?_ _) | (with_reducible refine Kp.drew ?_) | (with_reducible refine Kp.drewN ?_ _) | (with_reducible refine Kp.setCell ?_ _ ?_))) <;> (first | omega | (simp; done) | (simp; omega)))
    · simpa using (HO6.out.lo (lo' := w.heap.size) (by first | omega | (simp; done) | (simp; omega))).later (by (repeat (first | with_reducible exact Kp.refl _ _ | (with_reducible refine Kp.rng ?_ (by assumption) ?_) | (with_reducible refine Kp.below ?_ (by assumption)) | (with_reducible refine Kp.grown ?_ (by assumption) ?_) | (with_reducible refine Kp.alloc ?_ _) | (with_reducible refine Kp.drew ?_) | (with_reducible refine Kp.drewN ?_ _) | (with_reducible refine Kp.setCell ?_ _ ?_))) <;> (first | omega | (simp; done) | (simp; omega)))
    · exact (by (repeat (first | with_reducible exact Below.refl _ _ | (with_reducible refine bel_next ?_ ?_ (by assumption)) | (with_reducible refine Below.alloc ?_ ?_ _) | (with_reducible refine Below.drew ?_) | (with_reducible refine below_drewN ?_ _) | (with_reducible refine Below.setCell ?_ ?_ _))) <;> (first | omega | (simp; done) | (simp; omega)))
end Go.Proofs.Ytfeffofoofmgcaa

/- StepState: sinput, smux0, smux1, sdef. -/
import Derived.Test.YtfeffofoofmgcaaStepS
import Derived.StillTailTactics
import Derived.Deep.RegionLaw
namespace Go.Proofs.Ytfeffofoofmgcaa
open Go.RowKit
set_option linter.unusedVariables false
set_option linter.unusedSimpArgs false

set_option maxRecDepth 20000 in
set_option maxHeartbeats 8000000 in
theorem sStep_input (rs os : List Int) (a1 a2 : Option Addr) (c1 c2 : Nat) (dst a b c n : Int) (rr : List Rw) (ai : Option Addr) (ci : Nat) (w : World) (hm1 : rs.length ≤ 1048576) (hm2 : os.length ≤ 1048576) (hr1 : RdC w a1 (I64 rs)) (hr2 : RdC w a2 (I64 os)) (hmr : rr.length ≤ 1048576) (hml : rowsLe rr) (hri : RdR w ai rr) (h1 : stateOk rs os = true) (h2 : plainB ⟨2, dst, a, b, c, n⟩ = true) (h3 : inputsOk (rr.map Rw.xs) = true) :
    Calls Try.prog 54 #[.agg #[.slice a1 rs.length c1, .slice a2 os.length c2], stV ⟨2, dst, a, b, c, n⟩, .slice ai rr.length ci] w fun e w' => ∃ g1 d1 g2 d2, e = .returned (.agg #[.slice (some ⟨g1, 0, none⟩) (stepRegs rs os ⟨2, dst, a, b, c, n⟩ (rr.map Rw.xs)).length d1, .slice (some ⟨g2, 0, none⟩) (stepOuts rs os ⟨2, dst, a, b, c, n⟩ (rr.map Rw.xs)).length d2]) ∧
      Own w' w.heap.size 3 1 (some ⟨g1, 0, none⟩) (stepRegs rs os ⟨2, dst, a, b, c, n⟩ (rr.map Rw.xs)).length d1 (I64 (stepRegs rs os ⟨2, dst, a, b, c, n⟩ (rr.map Rw.xs))) ∧ Own w' w.heap.size 3 1 (some ⟨g2, 0, none⟩) (stepOuts rs os ⟨2, dst, a, b, c, n⟩ (rr.map Rw.xs)).length d2 (I64 (stepOuts rs os ⟨2, dst, a, b, c, n⟩ (rr.map Rw.xs))) ∧ g1 ≠ g2 ∧ Below w.heap.size w w' := by
  have hM1 : rs.length ≤ maxLen := by unfold maxLen; omega
  have hM2 : os.length ≤ maxLen := by unfold maxLen; omega
  have hMr : rr.length ≤ maxLen := by unfold maxLen; omega
  have HN1 := Lib.hid (rd_none hr1)
  have HN2 := Lib.hid (rd_none hr2)
  have HR1 := Lib.hid hr1
  have HR2 := Lib.hid hr2
  have HRI := Lib.hid hri
  clear hr1 hr2 hri
  have hB : stepB ⟨2, dst, a, b, c, n⟩ rs os (rr.map Rw.xs) = true := by simp [stepB, h1, h2, h3]
  have hst : stOk ⟨2, dst, a, b, c, n⟩ = true := by have h := h2; simp [plainB] at h; first | exact h | exact h.1
  
  have hh := stok_regs hst
  simp only at hh
  obtain ⟨o1, o13, r0, r1, r2, r3, r4, r5, r6, r7⟩ := hh
  have h8 := stateOk_len h1
  have h5 := inputs_len h3
  have ha4 : a ≤ 4 ∧ 0 ≤ n ∧ n ≤ 3 := by have h := hst; simp [stOk, inB] at h; omega
  have hal : a.toNat < rr.length := by omega
  obtain ⟨hrow, _⟩ := inputs_row h3 hal
  obtain ⟨v, hv⟩ : ∃ v, v = stepVal ⟨2, dst, a, b, c, n⟩ rs (rr.map Rw.xs) := ⟨_, rfl⟩
  have e1 : (stepRegs rs os ⟨2, dst, a, b, c, n⟩ (rr.map Rw.xs)) = rs.set dst.toNat v := by simp [stepRegs, hB, hv]
  have e2 : (stepOuts rs os ⟨2, dst, a, b, c, n⟩ (rr.map Rw.xs)) = os := by simp [stepOuts]
  have hv2 : ∀ (q1 : a.toNat < rr.length) (q2 : n.toNat < (rr[a.toNat].xs).length), v = (rr[a.toNat].xs)[n.toNat] := by
    intro q1 q2
    rw [hv]; simp [stepVal, List.getD, List.getElem?_eq_getElem hal, List.getElem?_eq_getElem (show n.toNat < rr[a.toNat].xs.length by omega)]
  clear hv
  rw [e1, e2]
  clear hB e1 e2
  have H8 := Lib.hid h8
  have H5 := Lib.hid h5
  have HST := Lib.hid h1
  have HS := Lib.hid hst
  have HIN := Lib.hid h3
  clear h1 h2 h3 hst h8 h5
  have hdt : dst.toNat < rs.length := by have := H8.out; omega
  have hd8 : dst < (rs.length : Int) := by have := H8.out; omega
  have HV2 := Lib.hid hv2
  have HROW := Lib.hid hrow
  clear hv2 hrow
  have hia : a < (rr.length : Int) := by have := H5.out; omega
  unfold stV
  go_enter Try.func54, Try.ntmps54
  go_wp2_with fail
  obtain ⟨w0, hw0⟩ : ∃ W, W = ((w.alloc (.cells #[.slice a1 rs.length c1, .slice a2 os.length c2] 57)).alloc (.cells #[.int .i64 2, .int .i64 dst, .int .i64 a, .int .i64 b, .int .i64 c, .int .i64 n] 38)).alloc (.cells #[.slice none 0 0, .slice none 0 0] 57) := ⟨_, rfl⟩
  rw [← hw0]
  have hb0 : Below w.heap.size w w0 := by rw [hw0]; exact (by (repeat (first | with_reducible exact Below.refl _ _ | (with_reducible refine bel_next ?_ ?_ (by assumption)) | (with_reducible refine Below.alloc ?_ ?_ _) | (with_reducible refine Below.drew ?_) | (with_reducible refine below_drewN ?_ _) | (with_reducible refine Below.setCell ?_ ?_ _))) <;> (first | omega | (simp; done) | (simp; omega)))
  have z0 : w.heap.size + 1 + 1 < w0.heap.size := by rw [hw0]; simp
  have k0_0 : w0.cell? ⟨w.heap.size, 0, none⟩ = some (.slice a1 rs.length c1) := by rw [hw0]; go_simp
  have k0_1 : w0.cell? ⟨w.heap.size, 1, none⟩ = some (.slice a2 os.length c2) := by rw [hw0]; go_simp
  have k0_2 : w0.cell? ⟨w.heap.size + 1, 0, none⟩ = some (.int .i64 2) := by rw [hw0]; go_simp
  have k0_3 : w0.cell? ⟨w.heap.size + 1, 1, none⟩ = some (.int .i64 dst) := by rw [hw0]; go_simp
  have k0_4 : w0.cell? ⟨w.heap.size + 1, 2, none⟩ = some (.int .i64 a) := by rw [hw0]; go_simp
  have k0_5 : w0.cell? ⟨w.heap.size + 1, 3, none⟩ = some (.int .i64 b) := by rw [hw0]; go_simp
  have k0_6 : w0.cell? ⟨w.heap.size + 1, 4, none⟩ = some (.int .i64 c) := by rw [hw0]; go_simp
  have k0_7 : w0.cell? ⟨w.heap.size + 1, 5, none⟩ = some (.int .i64 n) := by rw [hw0]; go_simp
  have k0_8 : w0.cell? ⟨w.heap.size + 1 + 1, 0, none⟩ = some (.slice none 0 0) := by rw [hw0]; go_simp
  have k0_9 : w0.cell? ⟨w.heap.size + 1 + 1, 1, none⟩ = some (.slice none 0 0) := by rw [hw0]; go_simp
  have f0_0 : w0.frozen? ⟨w.heap.size + 1 + 1, 0, none⟩ = false := by rw [hw0]; go_simp
  have f0_1 : w0.frozen? ⟨w.heap.size + 1 + 1, 1, none⟩ = false := by rw [hw0]; go_simp
  clear hw0
  refine (l12Copy_any rs os a1 a2 c1 c2 _ (by omega) (by omega) (HR1.out.below (by (repeat (first | with_reducible exact Below.refl _ _ | (with_reducible refine bel_next ?_ ?_ (by assumption)) | (with_reducible refine Below.alloc ?_ ?_ _) | (with_reducible refine Below.drew ?_) | (with_reducible refine below_drewN ?_ _) | (with_reducible refine Below.setCell ?_ ?_ _))) <;> (first | omega | (simp; done) | (simp; omega)))) (HR2.out.below (by (repeat (first | with_reducible exact Below.refl _ _ | (with_reducible refine bel_next ?_ ?_ (by assumption)) | (with_reducible refine Below.alloc ?_ ?_ _) | (with_reducible refine Below.drew ?_) | (with_reducible refine below_drewN ?_ _) | (with_reducible refine Below.setCell ?_ ?_ _))) <;> (first | omega | (simp; done) | (simp; omega)))) HN1.out HN2.out).mono ?_
  rintro e w1 ⟨g1, d1, g2, d2, rfl, ho1, ho2, hne, hb1⟩
  have z1 := hb1.size
  (try simp at z1)
  have y1_0 : w.heap.size < w1.heap.size := (by omega)
  have y1_1 : w.heap.size + 1 < w1.heap.size := (by omega)
  have y1_2 : w.heap.size + 1 + 1 < w1.heap.size := (by omega)
  have k1_0 := bel_keeps hb1 (b := w.heap.size) (o := 0) (v := .slice a1 rs.length c1) (by first | (go_simp; done) | assumption)
  have k1_1 := bel_keeps hb1 (b := w.heap.size) (o := 1) (v := .slice a2 os.length c2) (by first | (go_simp; done) | assumption)
  have k1_2 := bel_keeps hb1 (b := w.heap.size + 1) (o := 0) (v := .int .i64 2) (by first | (go_simp; done) | assumption)
  have k1_3 := bel_keeps hb1 (b := w.heap.size + 1) (o := 1) (v := .int .i64 dst) (by first | (go_simp; done) | assumption)
  have k1_4 := bel_keeps hb1 (b := w.heap.size + 1) (o := 2) (v := .int .i64 a) (by first | (go_simp; done) | assumption)
  have k1_5 := bel_keeps hb1 (b := w.heap.size + 1) (o := 3) (v := .int .i64 b) (by first | (go_simp; done) | assumption)
  have k1_6 := bel_keeps hb1 (b := w.heap.size + 1) (o := 4) (v := .int .i64 c) (by first | (go_simp; done) | assumption)
  have k1_7 := bel_keeps hb1 (b := w.heap.size + 1) (o := 5) (v := .int .i64 n) (by first | (go_simp; done) | assumption)
  have k1_8 := bel_keeps hb1 (b := w.heap.size + 1 + 1) (o := 0) (v := .slice none 0 0) (by first | (go_simp; done) | assumption)
  have k1_9 := bel_keeps hb1 (b := w.heap.size + 1 + 1) (o := 1) (v := .slice none 0 0) (by first | (go_simp; done) | assumption)
  have f1_0 := bel_free hb1 (b := w.heap.size + 1 + 1) (o := 0) (by first | omega | (simp; done) | (simp; omega)) (by first | (go_simp; done) | assumption)
  have f1_1 := bel_free hb1 (b := w.heap.size + 1 + 1) (o := 1) (by first | omega | (simp; done) | (simp; omega)) (by first | (go_simp; done) | assumption)
  clear k0_0 k0_1 k0_2 k0_3 k0_4 k0_5 k0_6 k0_7 k0_8 k0_9 f0_0 f0_1
  have lg1 := ho1.ge
  have lg2 := ho2.ge
  have hO1 := Lib.hid ho1
  have hO2 := Lib.hid ho2
  clear ho1 ho2
  go_wp2_with fail
  obtain ⟨w2, hw2⟩ : ∃ W, W = w1.alloc (.cells #[.slice (some ⟨g1, 0, none⟩) rs.length d1, .slice (some ⟨g2, 0, none⟩) os.length d2] 57) := ⟨_, rfl⟩
  rw [← hw2]
  have hb2 : Below w1.heap.size w1 w2 := by rw [hw2]; exact (Below.refl _ _).alloc (Nat.le_refl _) _
  have x2 : w1.heap.size < w2.heap.size := by rw [hw2]; simp
  have z2 := hb2.size
  (try simp at z2)
  have y2_0 : w.heap.size < w2.heap.size := (by omega)
  have y2_1 : w.heap.size + 1 < w2.heap.size := (by omega)
  have y2_2 : w.heap.size + 1 + 1 < w2.heap.size := (by omega)
  have k2_0 := bel_keeps hb2 (b := w.heap.size) (o := 0) (v := .slice a1 rs.length c1) (by first | (go_simp; done) | assumption)
  have k2_1 := bel_keeps hb2 (b := w.heap.size) (o := 1) (v := .slice a2 os.length c2) (by first | (go_simp; done) | assumption)
  have k2_2 := bel_keeps hb2 (b := w.heap.size + 1) (o := 0) (v := .int .i64 2) (by first | (go_simp; done) | assumption)
  have k2_3 := bel_keeps hb2 (b := w.heap.size + 1) (o := 1) (v := .int .i64 dst) (by first | (go_simp; done) | assumption)
  have k2_4 := bel_keeps hb2 (b := w.heap.size + 1) (o := 2) (v := .int .i64 a) (by first | (go_simp; done) | assumption)
  have k2_5 := bel_keeps hb2 (b := w.heap.size + 1) (o := 3) (v := .int .i64 b) (by first | (go_simp; done) | assumption)
  have k2_6 := bel_keeps hb2 (b := w.heap.size + 1) (o := 4) (v := .int .i64 c) (by first | (go_simp; done) | assumption)
  have k2_7 := bel_keeps hb2 (b := w.heap.size + 1) (o := 5) (v := .int .i64 n) (by first | (go_simp; done) | assumption)
  have k2_8 := bel_keeps hb2 (b := w.heap.size + 1 + 1) (o := 0) (v := .slice none 0 0) (by first | (go_simp; done) | assumption)
  have k2_9 := bel_keeps hb2 (b := w.heap.size + 1 + 1) (o := 1) (v := .slice none 0 0) (by first | (go_simp; done) | assumption)
  have f2_0 := bel_free hb2 (b := w.heap.size + 1 + 1) (o := 0) (by first | omega | (simp; done) | (simp; omega)) (by first | (go_simp; done) | assumption)
  have f2_1 := bel_free hb2 (b := w.heap.size + 1 + 1) (o := 1) (by first | omega | (simp; done) | (simp; omega)) (by first | (go_simp; done) | assumption)
  clear k1_0 k1_1 k1_2 k1_3 k1_4 k1_5 k1_6 k1_7 k1_8 k1_9 f1_0 f1_1
  have kb2_0 : w2.cell? ⟨w1.heap.size, 0, none⟩ = some (.slice (some ⟨g1, 0, none⟩) rs.length d1) := by rw [hw2]; go_simp
  have kb2_1 : w2.cell? ⟨w1.heap.size, 1, none⟩ = some (.slice (some ⟨g2, 0, none⟩) os.length d2) := by rw [hw2]; go_simp
  have kf2_0 : w2.frozen? ⟨w1.heap.size, 0, none⟩ = false := by rw [hw2]; go_simp
  have kf2_1 : w2.frozen? ⟨w1.heap.size, 1, none⟩ = false := by rw [hw2]; go_simp
  clear hw2
  go_wp2_with fail
  refine (sStateOk_any rs os _ _ _ _ _ hM1 hM2 (HR1.out.below (by (repeat (first | with_reducible exact Below.refl _ _ | (with_reducible refine bel_next ?_ ?_ (by assumption)) | (with_reducible refine Below.alloc ?_ ?_ _) | (with_reducible refine Below.drew ?_) | (with_reducible refine below_drewN ?_ _) | (with_reducible refine Below.setCell ?_ ?_ _))) <;> (first | omega | (simp; done) | (simp; omega)))) (HR2.out.below (by (repeat (first | with_reducible exact Below.refl _ _ | (with_reducible refine bel_next ?_ ?_ (by assumption)) | (with_reducible refine Below.alloc ?_ ?_ _) | (with_reducible refine Below.drew ?_) | (with_reducible refine below_drewN ?_ _) | (with_reducible refine Below.setCell ?_ ?_ _))) <;> (first | omega | (simp; done) | (simp; omega))))).mono ?_
  rintro e w3 ⟨rfl, hb3⟩
  have z3 := hb3.size
  (try simp at z3)
  have y3_0 : w.heap.size < w3.heap.size := (by omega)
  have y3_1 : w.heap.size + 1 < w3.heap.size := (by omega)
  have y3_2 : w.heap.size + 1 + 1 < w3.heap.size := (by omega)
  have y3_3 : w1.heap.size < w3.heap.size := (by omega)
  have k3_0 := bel_keeps hb3 (b := w.heap.size) (o := 0) (v := .slice a1 rs.length c1) (by first | (go_simp; done) | assumption)
  have k3_1 := bel_keeps hb3 (b := w.heap.size) (o := 1) (v := .slice a2 os.length c2) (by first | (go_simp; done) | assumption)
  have k3_2 := bel_keeps hb3 (b := w.heap.size + 1) (o := 0) (v := .int .i64 2) (by first | (go_simp; done) | assumption)
  have k3_3 := bel_keeps hb3 (b := w.heap.size + 1) (o := 1) (v := .int .i64 dst) (by first | (go_simp; done) | assumption)
  have k3_4 := bel_keeps hb3 (b := w.heap.size + 1) (o := 2) (v := .int .i64 a) (by first | (go_simp; done) | assumption)
  have k3_5 := bel_keeps hb3 (b := w.heap.size + 1) (o := 3) (v := .int .i64 b) (by first | (go_simp; done) | assumption)
  have k3_6 := bel_keeps hb3 (b := w.heap.size + 1) (o := 4) (v := .int .i64 c) (by first | (go_simp; done) | assumption)
  have k3_7 := bel_keeps hb3 (b := w.heap.size + 1) (o := 5) (v := .int .i64 n) (by first | (go_simp; done) | assumption)
  have k3_8 := bel_keeps hb3 (b := w.heap.size + 1 + 1) (o := 0) (v := .slice none 0 0) (by first | (go_simp; done) | assumption)
  have k3_9 := bel_keeps hb3 (b := w.heap.size + 1 + 1) (o := 1) (v := .slice none 0 0) (by first | (go_simp; done) | assumption)
  have k3_10 := bel_keeps hb3 (b := w1.heap.size) (o := 0) (v := .slice (some ⟨g1, 0, none⟩) rs.length d1) (by first | (go_simp; done) | assumption)
  have k3_11 := bel_keeps hb3 (b := w1.heap.size) (o := 1) (v := .slice (some ⟨g2, 0, none⟩) os.length d2) (by first | (go_simp; done) | assumption)
  have f3_0 := bel_free hb3 (b := w.heap.size + 1 + 1) (o := 0) (by first | omega | (simp; done) | (simp; omega)) (by first | (go_simp; done) | assumption)
  have f3_1 := bel_free hb3 (b := w.heap.size + 1 + 1) (o := 1) (by first | omega | (simp; done) | (simp; omega)) (by first | (go_simp; done) | assumption)
  have f3_2 := bel_free hb3 (b := w1.heap.size) (o := 0) (by first | omega | (simp; done) | (simp; omega)) (by first | (go_simp; done) | assumption)
  have f3_3 := bel_free hb3 (b := w1.heap.size) (o := 1) (by first | omega | (simp; done) | (simp; omega)) (by first | (go_simp; done) | assumption)
  clear k2_0 k2_1 k2_2 k2_3 k2_4 k2_5 k2_6 k2_7 k2_8 k2_9 kb2_0 kb2_1 f2_0 f2_1 kf2_0 kf2_1
  rw [HST.out]
  go_wp2_with fail
  refine (sStmtOk_any ⟨2, dst, a, b, c, n⟩ _).mono ?_
  rintro e w4 ⟨rfl, hb4⟩
  have z4 := hb4.size
  (try simp at z4)
  have y4_0 : w.heap.size < w4.heap.size := (by omega)
  have y4_1 : w.heap.size + 1 < w4.heap.size := (by omega)
  have y4_2 : w.heap.size + 1 + 1 < w4.heap.size := (by omega)
  have y4_3 : w1.heap.size < w4.heap.size := (by omega)
  have k4_0 := bel_keeps hb4 (b := w.heap.size) (o := 0) (v := .slice a1 rs.length c1) (by first | (go_simp; done) | assumption)
  have k4_1 := bel_keeps hb4 (b := w.heap.size) (o := 1) (v := .slice a2 os.length c2) (by first | (go_simp; done) | assumption)
  have k4_2 := bel_keeps hb4 (b := w.heap.size + 1) (o := 0) (v := .int .i64 2) (by first | (go_simp; done) | assumption)
  have k4_3 := bel_keeps hb4 (b := w.heap.size + 1) (o := 1) (v := .int .i64 dst) (by first | (go_simp; done) | assumption)
  have k4_4 := bel_keeps hb4 (b := w.heap.size + 1) (o := 2) (v := .int .i64 a) (by first | (go_simp; done) | assumption)
  have k4_5 := bel_keeps hb4 (b := w.heap.size + 1) (o := 3) (v := .int .i64 b) (by first | (go_simp; done) | assumption)
  have k4_6 := bel_keeps hb4 (b := w.heap.size + 1) (o := 4) (v := .int .i64 c) (by first | (go_simp; done) | assumption)
  have k4_7 := bel_keeps hb4 (b := w.heap.size + 1) (o := 5) (v := .int .i64 n) (by first | (go_simp; done) | assumption)
  have k4_8 := bel_keeps hb4 (b := w.heap.size + 1 + 1) (o := 0) (v := .slice none 0 0) (by first | (go_simp; done) | assumption)
  have k4_9 := bel_keeps hb4 (b := w.heap.size + 1 + 1) (o := 1) (v := .slice none 0 0) (by first | (go_simp; done) | assumption)
  have k4_10 := bel_keeps hb4 (b := w1.heap.size) (o := 0) (v := .slice (some ⟨g1, 0, none⟩) rs.length d1) (by first | (go_simp; done) | assumption)
  have k4_11 := bel_keeps hb4 (b := w1.heap.size) (o := 1) (v := .slice (some ⟨g2, 0, none⟩) os.length d2) (by first | (go_simp; done) | assumption)
  have f4_0 := bel_free hb4 (b := w.heap.size + 1 + 1) (o := 0) (by first | omega | (simp; done) | (simp; omega)) (by first | (go_simp; done) | assumption)
  have f4_1 := bel_free hb4 (b := w.heap.size + 1 + 1) (o := 1) (by first | omega | (simp; done) | (simp; omega)) (by first | (go_simp; done) | assumption)
  have f4_2 := bel_free hb4 (b := w1.heap.size) (o := 0) (by first | omega | (simp; done) | (simp; omega)) (by first | (go_simp; done) | assumption)
  have f4_3 := bel_free hb4 (b := w1.heap.size) (o := 1) (by first | omega | (simp; done) | (simp; omega)) (by first | (go_simp; done) | assumption)
  clear k3_0 k3_1 k3_2 k3_3 k3_4 k3_5 k3_6 k3_7 k3_8 k3_9 k3_10 k3_11 f3_0 f3_1 f3_2 f3_3
  rw [HS.out]
  go_wp2_with fail
  refine (sInputsOk_any rr _ _ _ hMr hml (HRI.out.below (by (repeat (first | with_reducible exact Below.refl _ _ | (with_reducible refine bel_next ?_ ?_ (by assumption)) | (with_reducible refine Below.alloc ?_ ?_ _) | (with_reducible refine Below.drew ?_) | (with_reducible refine below_drewN ?_ _) | (with_reducible refine Below.setCell ?_ ?_ _))) <;> (first | omega | (simp; done) | (simp; omega))))).mono ?_
  rintro e _ ⟨rfl, rfl⟩
  rw [HIN.out]
  obtain ⟨bi, oi, hai, hci, hrw⟩ := (show RdR w4 ai rr from HRI.out.below (by (repeat (first | with_reducible exact Below.refl _ _ | (with_reducible refine bel_next ?_ ?_ (by assumption)) | (with_reducible refine Below.alloc ?_ ?_ _) | (with_reducible refine Below.drew ?_) | (with_reducible refine below_drewN ?_ _) | (with_reducible refine Below.setCell ?_ ?_ _))) <;> (first | omega | (simp; done) | (simp; omega)))).at a.toNat (by have := H5.out; omega)
  subst hai
  obtain ⟨rw, hrwe⟩ : ∃ r, r = rr[a.toNat]'(by have := H5.out; omega) := ⟨_, rfl⟩
  have hal2 : a.toNat < rr.length := by have := H5.out; omega
  have HV3 := HV2.out hal2
  have hrow3 := HROW.out
  rw [← hrwe] at hci hrw hrow3
  simp only [← hrwe] at HV3
  have hci' : w4.cell? ⟨bi, oi + a.toNat, none⟩ = some (.slice rw.ad rw.xs.length rw.cap) := hci
  clear hci
  obtain ⟨bj, oj, haj, hcj⟩ := hrw.at n.toNat (by omega)
  have cj := hcj n.toNat (by omega)
  rw [← HV3 (by omega)] at cj
  rw [haj] at hci'
  have hin : n < (rw.xs.length : Int) := by omega
  obtain ⟨q, hq⟩ : ∃ q, q = rw.xs.length := ⟨_, rfl⟩
  rw [← hq] at hci' hin
  clear hcj HV3 hrow3 hrwe haj hq hrw
  obtain ⟨ca, fa⟩ := (show Own w4 _ _ _ _ _ _ _ from hO1.out.later (by (repeat (first | with_reducible exact Kp.refl _ _ | (with_reducible refine Kp.rng ?_ (by assumption) ?_) | (with_reducible refine Kp.below ?_ (by assumption)) | (with_reducible refine Kp.grown ?_ (by assumption) ?_) | (with_reducible refine Kp.alloc ?_ _) | (with_reducible refine Kp.drew ?_) | (with_reducible refine Kp.drewN ?_ _) | (with_reducible refine Kp.setCell ?_ _ ?_))) <;> (first | omega | (simp; done) | (simp; omega)))).get dst.toNat (by simp; exact hdt)
  generalize (I64 rs)[dst.toNat]'_ = u at ca
  have nq0 : w.heap.size ≠ g1 := (by omega)
  have np0 : g1 ≠ w.heap.size := (by omega)
  have nq1 : w.heap.size + 1 ≠ g1 := (by omega)
  have np1 : g1 ≠ w.heap.size + 1 := (by omega)
  have nq2 : w.heap.size + 1 + 1 ≠ g1 := (by omega)
  have np2 : g1 ≠ w.heap.size + 1 + 1 := (by omega)
  have nq3 : w1.heap.size ≠ g1 := (by omega)
  have np3 : g1 ≠ w1.heap.size := (by omega)
  go_wp2_with fail
  go_still_tail 14, (by kernel_rfl)
  change wpList _ _ _ _ _ (World.drew _)
  go_wp2_with fail
  refine (l12Copy_n (rs.set dst.toNat v) os rs.length os.length _ _ _ _ _ (by simp) rfl (by omega) (by omega) (by rw [← I64_set]; exact (((show Own w4 _ _ _ _ _ _ _ from hO1.out.later (by (repeat (first | with_reducible exact Kp.refl _ _ | (with_reducible refine Kp.rng ?_ (by assumption) ?_) | (with_reducible refine Kp.below ?_ (by assumption)) | (with_reducible refine Kp.grown ?_ (by assumption) ?_) | (with_reducible refine Kp.alloc ?_ _) | (with_reducible refine Kp.drew ?_) | (with_reducible refine Kp.drewN ?_ _) | (with_reducible refine Kp.setCell ?_ _ ?_))) <;> (first | omega | (simp; done) | (simp; omega))))).put _ _).rd) (hO2.out.later (by (repeat (first | with_reducible exact Kp.refl _ _ | (with_reducible refine Kp.rng ?_ (by assumption) ?_) | (with_reducible refine Kp.below ?_ (by assumption)) | (with_reducible refine Kp.grown ?_ (by assumption) ?_) | (with_reducible refine Kp.alloc ?_ _) | (with_reducible refine Kp.drew ?_) | (with_reducible refine Kp.drewN ?_ _) | (with_reducible refine Kp.setCell ?_ _ ?_))) <;> (first | omega | (simp; done) | (simp; omega)))).rd (by intro h; cases h) (by intro h; cases h)).mono ?_
  rintro e w6' ⟨g5, d5, g6, d6, rfl, ho5, ho6, hne5, hb6'⟩
  have z6' := hb6'.size
  (try simp at z6')
  have e6_0 := bel_keeps hb6' (b := w.heap.size + 1 + 1) (o := 0) (v := .slice none 0 0) (by first | (go_simp; done) | assumption)
  have e7_0 := bel_free hb6' (b := w.heap.size + 1 + 1) (o := 0) (by first | omega | (simp; done) | (simp; omega)) (by first | (go_simp; done) | assumption)
  have e6_1 := bel_keeps hb6' (b := w.heap.size + 1 + 1) (o := 1) (v := .slice none 0 0) (by first | (go_simp; done) | assumption)
  have e7_1 := bel_free hb6' (b := w.heap.size + 1 + 1) (o := 1) (by first | omega | (simp; done) | (simp; omega)) (by first | (go_simp; done) | assumption)
  have l5 := ho5.ge
  have l6 := ho6.ge
  (try simp at l5)
  (try simp at l6)
  have HO5 := Lib.hid ho5
  have HO6 := Lib.hid ho6
  clear ho5 ho6
  go_wp2_with fail
  refine bodyPost_ret (v := .agg #[.slice (some ⟨g5, 0, none⟩) (rs.length) d5, .slice (some ⟨g6, 0, none⟩) (os.length) d6]) (by simp [results, Try.results54, go_sem, e6_0, e6_1, e7_0, e7_1]) rfl ⟨g5, d5, g6, d6, by simp, ?_, ?_, hne5, ?_⟩
  · simpa using (HO5.out.lo (lo' := w.heap.size) (by first | omega | (simp; done) | (simp; omega))).later (by (repeat (first | with_reducible exact Kp.refl _ _ | (with_reducible refine Kp.rng ?_ (by assumption) ?_) | (with_reducible refine Kp.below ?_ (by assumption)) | (with_reducible refine Kp.grown ?_ (by assumption) ?_) | (with_reducible refine Kp.alloc ?_ _) | (with_reducible refine Kp.drew ?_) | (with_reducible refine Kp.drewN ?_ _) | (with_reducible refine Kp.setCell ?_ _ ?_))) <;> (first | omega | (simp; done) | (simp; omega)))
  · simpa using (HO6.out.lo (lo' := w.heap.size) (by first | omega | (simp; done) | (simp; omega))).later (by (repeat (first | with_reducible exact Kp.refl _ _ | (with_reducible refine Kp.rng ?_ (by assumption) ?_) | (with_reducible refine Kp.below ?_ (by assumption)) | (with_reducible refine Kp.grown ?_ (by assumption) ?_) | (with_reducible refine Kp.alloc ?_ _) | (with_reducible refine Kp.drew ?_) | (with_reducible refine Kp.drewN ?_ _) | (with_reducible refine Kp.setCell ?_ _ ?_))) <;> (first | omega | (simp; done) | (simp; omega)))
  · exact (by (repeat (first | with_reducible exact Below.refl _ _ | (with_reducible refine bel_next ?_ ?_ (by assumption)) | (with_reducible refine Below.alloc ?_ ?_ _) | (with_reducible refine Below.drew ?_) | (with_reducible refine below_drewN ?_ _) | (with_reducible refine Below.setCell ?_ ?_ _))) <;> (first | omega | (simp; done) | (simp; omega)))
set_option maxRecDepth 20000 in
set_option maxHeartbeats 8000000 in
theorem sStep_mux0 (rs os : List Int) (a1 a2 : Option Addr) (c1 c2 : Nat) (dst a b c n : Int) (rr : List Rw) (ai : Option Addr) (ci : Nat) (w : World) (hm1 : rs.length ≤ 1048576) (hm2 : os.length ≤ 1048576) (hr1 : RdC w a1 (I64 rs)) (hr2 : RdC w a2 (I64 os)) (hmr : rr.length ≤ 1048576) (hml : rowsLe rr) (hri : RdR w ai rr) (h1 : stateOk rs os = true) (h2 : plainB ⟨10, dst, a, b, c, n⟩ = true) (h3 : inputsOk (rr.map Rw.xs) = true) (hb : ¬ bits .and .i64 (rgd rs a) 1 = 1) :
    Calls Try.prog 54 #[.agg #[.slice a1 rs.length c1, .slice a2 os.length c2], stV ⟨10, dst, a, b, c, n⟩, .slice ai rr.length ci] w fun e w' => ∃ g1 d1 g2 d2, e = .returned (.agg #[.slice (some ⟨g1, 0, none⟩) (stepRegs rs os ⟨10, dst, a, b, c, n⟩ (rr.map Rw.xs)).length d1, .slice (some ⟨g2, 0, none⟩) (stepOuts rs os ⟨10, dst, a, b, c, n⟩ (rr.map Rw.xs)).length d2]) ∧
      Own w' w.heap.size 3 1 (some ⟨g1, 0, none⟩) (stepRegs rs os ⟨10, dst, a, b, c, n⟩ (rr.map Rw.xs)).length d1 (I64 (stepRegs rs os ⟨10, dst, a, b, c, n⟩ (rr.map Rw.xs))) ∧ Own w' w.heap.size 3 1 (some ⟨g2, 0, none⟩) (stepOuts rs os ⟨10, dst, a, b, c, n⟩ (rr.map Rw.xs)).length d2 (I64 (stepOuts rs os ⟨10, dst, a, b, c, n⟩ (rr.map Rw.xs))) ∧ g1 ≠ g2 ∧ Below w.heap.size w w' := by
  have hM1 : rs.length ≤ maxLen := by unfold maxLen; omega
  have hM2 : os.length ≤ maxLen := by unfold maxLen; omega
  have hMr : rr.length ≤ maxLen := by unfold maxLen; omega
  have HN1 := Lib.hid (rd_none hr1)
  have HN2 := Lib.hid (rd_none hr2)
  have HR1 := Lib.hid hr1
  have HR2 := Lib.hid hr2
  have HRI := Lib.hid hri
  clear hr1 hr2 hri
  have hB : stepB ⟨10, dst, a, b, c, n⟩ rs os (rr.map Rw.xs) = true := by simp [stepB, h1, h2, h3]
  have hst : stOk ⟨10, dst, a, b, c, n⟩ = true := by have h := h2; simp [plainB] at h; first | exact h | exact h.1
  
  have hh := stok_regs hst
  simp only at hh
  obtain ⟨o1, o13, r0, r1, r2, r3, r4, r5, r6, r7⟩ := hh
  have h8 := stateOk_len h1
  have h5 := inputs_len h3
  obtain ⟨v, hv⟩ : ∃ v, v = stepVal ⟨10, dst, a, b, c, n⟩ rs (rr.map Rw.xs) := ⟨_, rfl⟩
  have e1 : (stepRegs rs os ⟨10, dst, a, b, c, n⟩ (rr.map Rw.xs)) = rs.set dst.toNat v := by simp [stepRegs, hB, hv]
  have e2 : (stepOuts rs os ⟨10, dst, a, b, c, n⟩ (rr.map Rw.xs)) = os := by simp [stepOuts]
  have hv2 : v = rgd rs c := by rw [hv]; simp [stepVal, hb]
  clear hv
  rw [e1, e2]
  clear hB e1 e2
  have H8 := Lib.hid h8
  have H5 := Lib.hid h5
  have HST := Lib.hid h1
  have HS := Lib.hid hst
  have HIN := Lib.hid h3
  clear h1 h2 h3 hst h8 h5
  have hta : a.toNat < rs.length := by have := H8.out; omega
  have hxa : rgd rs a = rs[a.toNat] := rgd_at hta
  obtain ⟨xa, hqa⟩ : ∃ x, x = rs[a.toNat] := ⟨_, rfl⟩
  rw [← hqa] at hxa
  have hia : a < (rs.length : Int) := by have := H8.out; omega
  have htc : c.toNat < rs.length := by have := H8.out; omega
  have hxc : rgd rs c = rs[c.toNat] := rgd_at htc
  obtain ⟨xc, hqc⟩ : ∃ x, x = rs[c.toNat] := ⟨_, rfl⟩
  rw [← hqc] at hxc
  have hic : c < (rs.length : Int) := by have := H8.out; omega
  rw [hxa] at hb
  rw [hxc] at hv2
  rw [hv2]
  have tb : (bits .and .i64 xa 1 == 1) = false := by simp [hb]
  clear hb hxa hxc hv2
  have hdt : dst.toNat < rs.length := by have := H8.out; omega
  have hd8 : dst < (rs.length : Int) := by have := H8.out; omega
  have HQa := Lib.hid hqa
  clear hqa
  have HQc := Lib.hid hqc
  clear hqc
  unfold stV
  go_enter Try.func54, Try.ntmps54
  go_wp2_with fail
  obtain ⟨w0, hw0⟩ : ∃ W, W = ((w.alloc (.cells #[.slice a1 rs.length c1, .slice a2 os.length c2] 57)).alloc (.cells #[.int .i64 10, .int .i64 dst, .int .i64 a, .int .i64 b, .int .i64 c, .int .i64 n] 38)).alloc (.cells #[.slice none 0 0, .slice none 0 0] 57) := ⟨_, rfl⟩
  rw [← hw0]
  have hb0 : Below w.heap.size w w0 := by rw [hw0]; exact (by (repeat (first | with_reducible exact Below.refl _ _ | (with_reducible refine bel_next ?_ ?_ (by assumption)) | (with_reducible refine Below.alloc ?_ ?_ _) | (with_reducible refine Below.drew ?_) | (with_reducible refine below_drewN ?_ _) | (with_reducible refine Below.setCell ?_ ?_ _))) <;> (first | omega | (simp; done) | (simp; omega)))
  have z0 : w.heap.size + 1 + 1 < w0.heap.size := by rw [hw0]; simp
  have k0_0 : w0.cell? ⟨w.heap.size, 0, none⟩ = some (.slice a1 rs.length c1) := by rw [hw0]; go_simp
  have k0_1 : w0.cell? ⟨w.heap.size, 1, none⟩ = some (.slice a2 os.length c2) := by rw [hw0]; go_simp
  have k0_2 : w0.cell? ⟨w.heap.size + 1, 0, none⟩ = some (.int .i64 10) := by rw [hw0]; go_simp
  have k0_3 : w0.cell? ⟨w.heap.size + 1, 1, none⟩ = some (.int .i64 dst) := by rw [hw0]; go_simp
  have k0_4 : w0.cell? ⟨w.heap.size + 1, 2, none⟩ = some (.int .i64 a) := by rw [hw0]; go_simp
  have k0_5 : w0.cell? ⟨w.heap.size + 1, 3, none⟩ = some (.int .i64 b) := by rw [hw0]; go_simp
  have k0_6 : w0.cell? ⟨w.heap.size + 1, 4, none⟩ = some (.int .i64 c) := by rw [hw0]; go_simp
  have k0_7 : w0.cell? ⟨w.heap.size + 1, 5, none⟩ = some (.int .i64 n) := by rw [hw0]; go_simp
  have k0_8 : w0.cell? ⟨w.heap.size + 1 + 1, 0, none⟩ = some (.slice none 0 0) := by rw [hw0]; go_simp
  have k0_9 : w0.cell? ⟨w.heap.size + 1 + 1, 1, none⟩ = some (.slice none 0 0) := by rw [hw0]; go_simp
  have f0_0 : w0.frozen? ⟨w.heap.size + 1 + 1, 0, none⟩ = false := by rw [hw0]; go_simp
  have f0_1 : w0.frozen? ⟨w.heap.size + 1 + 1, 1, none⟩ = false := by rw [hw0]; go_simp
  clear hw0
  refine (l12Copy_any rs os a1 a2 c1 c2 _ (by omega) (by omega) (HR1.out.below (by (repeat (first | with_reducible exact Below.refl _ _ | (with_reducible refine bel_next ?_ ?_ (by assumption)) | (with_reducible refine Below.alloc ?_ ?_ _) | (with_reducible refine Below.drew ?_) | (with_reducible refine below_drewN ?_ _) | (with_reducible refine Below.setCell ?_ ?_ _))) <;> (first | omega | (simp; done) | (simp; omega)))) (HR2.out.below (by (repeat (first | with_reducible exact Below.refl _ _ | (with_reducible refine bel_next ?_ ?_ (by assumption)) | (with_reducible refine Below.alloc ?_ ?_ _) | (with_reducible refine Below.drew ?_) | (with_reducible refine below_drewN ?_ _) | (with_reducible refine Below.setCell ?_ ?_ _))) <;> (first | omega | (simp; done) | (simp; omega)))) HN1.out HN2.out).mono ?_
  rintro e w1 ⟨g1, d1, g2, d2, rfl, ho1, ho2, hne, hb1⟩
  have z1 := hb1.size
  (try simp at z1)
  have y1_0 : w.heap.size < w1.heap.size := (by omega)
  have y1_1 : w.heap.size + 1 < w1.heap.size := (by omega)
  have y1_2 : w.heap.size + 1 + 1 < w1.heap.size := (by omega)
  have k1_0 := bel_keeps hb1 (b := w.heap.size) (o := 0) (v := .slice a1 rs.length c1) (by first | (go_simp; done) | assumption)
  have k1_1 := bel_keeps hb1 (b := w.heap.size) (o := 1) (v := .slice a2 os.length c2) (by first | (go_simp; done) | assumption)
  have k1_2 := bel_keeps hb1 (b := w.heap.size + 1) (o := 0) (v := .int .i64 10) (by first | (go_simp; done) | assumption)
  have k1_3 := bel_keeps hb1 (b := w.heap.size + 1) (o := 1) (v := .int .i64 dst) (by first | (go_simp; done) | assumption)
  have k1_4 := bel_keeps hb1 (b := w.heap.size + 1) (o := 2) (v := .int .i64 a) (by first | (go_simp; done) | assumption)
  have k1_5 := bel_keeps hb1 (b := w.heap.size + 1) (o := 3) (v := .int .i64 b) (by first | (go_simp; done) | assumption)
  have k1_6 := bel_keeps hb1 (b := w.heap.size + 1) (o := 4) (v := .int .i64 c) (by first | (go_simp; done) | assumption)
  have k1_7 := bel_keeps hb1 (b := w.heap.size + 1) (o := 5) (v := .int .i64 n) (by first | (go_simp; done) | assumption)
  have k1_8 := bel_keeps hb1 (b := w.heap.size + 1 + 1) (o := 0) (v := .slice none 0 0) (by first | (go_simp; done) | assumption)
  have k1_9 := bel_keeps hb1 (b := w.heap.size + 1 + 1) (o := 1) (v := .slice none 0 0) (by first | (go_simp; done) | assumption)
  have f1_0 := bel_free hb1 (b := w.heap.size + 1 + 1) (o := 0) (by first | omega | (simp; done) | (simp; omega)) (by first | (go_simp; done) | assumption)
  have f1_1 := bel_free hb1 (b := w.heap.size + 1 + 1) (o := 1) (by first | omega | (simp; done) | (simp; omega)) (by first | (go_simp; done) | assumption)
  clear k0_0 k0_1 k0_2 k0_3 k0_4 k0_5 k0_6 k0_7 k0_8 k0_9 f0_0 f0_1
  have lg1 := ho1.ge
  have lg2 := ho2.ge
  have hO1 := Lib.hid ho1
  have hO2 := Lib.hid ho2
  clear ho1 ho2
  go_wp2_with fail
  obtain ⟨w2, hw2⟩ : ∃ W, W = w1.alloc (.cells #[.slice (some ⟨g1, 0, none⟩) rs.length d1, .slice (some ⟨g2, 0, none⟩) os.length d2] 57) := ⟨_, rfl⟩
  rw [← hw2]
  have hb2 : Below w1.heap.size w1 w2 := by rw [hw2]; exact (Below.refl _ _).alloc (Nat.le_refl _) _
  have x2 : w1.heap.size < w2.heap.size := by rw [hw2]; simp
  have z2 := hb2.size
  (try simp at z2)
  have y2_0 : w.heap.size < w2.heap.size := (by omega)
  have y2_1 : w.heap.size + 1 < w2.heap.size := (by omega)
  have y2_2 : w.heap.size + 1 + 1 < w2.heap.size := (by omega)
  have k2_0 := bel_keeps hb2 (b := w.heap.size) (o := 0) (v := .slice a1 rs.length c1) (by first | (go_simp; done) | assumption)
  have k2_1 := bel_keeps hb2 (b := w.heap.size) (o := 1) (v := .slice a2 os.length c2) (by first | (go_simp; done) | assumption)
  have k2_2 := bel_keeps hb2 (b := w.heap.size + 1) (o := 0) (v := .int .i64 10) (by first | (go_simp; done) | assumption)
  have k2_3 := bel_keeps hb2 (b := w.heap.size + 1) (o := 1) (v := .int .i64 dst) (by first | (go_simp; done) | assumption)
  have k2_4 := bel_keeps hb2 (b := w.heap.size + 1) (o := 2) (v := .int .i64 a) (by first | (go_simp; done) | assumption)
  have k2_5 := bel_keeps hb2 (b := w.heap.size + 1) (o := 3) (v := .int .i64 b) (by first | (go_simp; done) | assumption)
  have k2_6 := bel_keeps hb2 (b := w.heap.size + 1) (o := 4) (v := .int .i64 c) (by first | (go_simp; done) | assumption)
  have k2_7 := bel_keeps hb2 (b := w.heap.size + 1) (o := 5) (v := .int .i64 n) (by first | (go_simp; done) | assumption)
  have k2_8 := bel_keeps hb2 (b := w.heap.size + 1 + 1) (o := 0) (v := .slice none 0 0) (by first | (go_simp; done) | assumption)
  have k2_9 := bel_keeps hb2 (b := w.heap.size + 1 + 1) (o := 1) (v := .slice none 0 0) (by first | (go_simp; done) | assumption)
  have f2_0 := bel_free hb2 (b := w.heap.size + 1 + 1) (o := 0) (by first | omega | (simp; done) | (simp; omega)) (by first | (go_simp; done) | assumption)
  have f2_1 := bel_free hb2 (b := w.heap.size + 1 + 1) (o := 1) (by first | omega | (simp; done) | (simp; omega)) (by first | (go_simp; done) | assumption)
  clear k1_0 k1_1 k1_2 k1_3 k1_4 k1_5 k1_6 k1_7 k1_8 k1_9 f1_0 f1_1
  have kb2_0 : w2.cell? ⟨w1.heap.size, 0, none⟩ = some (.slice (some ⟨g1, 0, none⟩) rs.length d1) := by rw [hw2]; go_simp
  have kb2_1 : w2.cell? ⟨w1.heap.size, 1, none⟩ = some (.slice (some ⟨g2, 0, none⟩) os.length d2) := by rw [hw2]; go_simp
  have kf2_0 : w2.frozen? ⟨w1.heap.size, 0, none⟩ = false := by rw [hw2]; go_simp
  have kf2_1 : w2.frozen? ⟨w1.heap.size, 1, none⟩ = false := by rw [hw2]; go_simp
  clear hw2
  go_wp2_with fail
  refine (sStateOk_any rs os _ _ _ _ _ hM1 hM2 (HR1.out.below (by (repeat (first | with_reducible exact Below.refl _ _ | (with_reducible refine bel_next ?_ ?_ (by assumption)) | (with_reducible refine Below.alloc ?_ ?_ _) | (with_reducible refine Below.drew ?_) | (with_reducible refine below_drewN ?_ _) | (with_reducible refine Below.setCell ?_ ?_ _))) <;> (first | omega | (simp; done) | (simp; omega)))) (HR2.out.below (by (repeat (first | with_reducible exact Below.refl _ _ | (with_reducible refine bel_next ?_ ?_ (by assumption)) | (with_reducible refine Below.alloc ?_ ?_ _) | (with_reducible refine Below.drew ?_) | (with_reducible refine below_drewN ?_ _) | (with_reducible refine Below.setCell ?_ ?_ _))) <;> (first | omega | (simp; done) | (simp; omega))))).mono ?_
  rintro e w3 ⟨rfl, hb3⟩
  have z3 := hb3.size
  (try simp at z3)
  have y3_0 : w.heap.size < w3.heap.size := (by omega)
  have y3_1 : w.heap.size + 1 < w3.heap.size := (by omega)
  have y3_2 : w.heap.size + 1 + 1 < w3.heap.size := (by omega)
  have y3_3 : w1.heap.size < w3.heap.size := (by omega)
  have k3_0 := bel_keeps hb3 (b := w.heap.size) (o := 0) (v := .slice a1 rs.length c1) (by first | (go_simp; done) | assumption)
  have k3_1 := bel_keeps hb3 (b := w.heap.size) (o := 1) (v := .slice a2 os.length c2) (by first | (go_simp; done) | assumption)
  have k3_2 := bel_keeps hb3 (b := w.heap.size + 1) (o := 0) (v := .int .i64 10) (by first | (go_simp; done) | assumption)
  have k3_3 := bel_keeps hb3 (b := w.heap.size + 1) (o := 1) (v := .int .i64 dst) (by first | (go_simp; done) | assumption)
  have k3_4 := bel_keeps hb3 (b := w.heap.size + 1) (o := 2) (v := .int .i64 a) (by first | (go_simp; done) | assumption)
  have k3_5 := bel_keeps hb3 (b := w.heap.size + 1) (o := 3) (v := .int .i64 b) (by first | (go_simp; done) | assumption)
  have k3_6 := bel_keeps hb3 (b := w.heap.size + 1) (o := 4) (v := .int .i64 c) (by first | (go_simp; done) | assumption)
  have k3_7 := bel_keeps hb3 (b := w.heap.size + 1) (o := 5) (v := .int .i64 n) (by first | (go_simp; done) | assumption)
  have k3_8 := bel_keeps hb3 (b := w.heap.size + 1 + 1) (o := 0) (v := .slice none 0 0) (by first | (go_simp; done) | assumption)
  have k3_9 := bel_keeps hb3 (b := w.heap.size + 1 + 1) (o := 1) (v := .slice none 0 0) (by first | (go_simp; done) | assumption)
  have k3_10 := bel_keeps hb3 (b := w1.heap.size) (o := 0) (v := .slice (some ⟨g1, 0, none⟩) rs.length d1) (by first | (go_simp; done) | assumption)
  have k3_11 := bel_keeps hb3 (b := w1.heap.size) (o := 1) (v := .slice (some ⟨g2, 0, none⟩) os.length d2) (by first | (go_simp; done) | assumption)
  have f3_0 := bel_free hb3 (b := w.heap.size + 1 + 1) (o := 0) (by first | omega | (simp; done) | (simp; omega)) (by first | (go_simp; done) | assumption)
  have f3_1 := bel_free hb3 (b := w.heap.size + 1 + 1) (o := 1) (by first | omega | (simp; done) | (simp; omega)) (by first | (go_simp; done) | assumption)
  have f3_2 := bel_free hb3 (b := w1.heap.size) (o := 0) (by first | omega | (simp; done) | (simp; omega)) (by first | (go_simp; done) | assumption)
  have f3_3 := bel_free hb3 (b := w1.heap.size) (o := 1) (by first | omega | (simp; done) | (simp; omega)) (by first | (go_simp; done) | assumption)
  clear k2_0 k2_1 k2_2 k2_3 k2_4 k2_5 k2_6 k2_7 k2_8 k2_9 kb2_0 kb2_1 f2_0 f2_1 kf2_0 kf2_1
  rw [HST.out]
  go_wp2_with fail
  refine (sStmtOk_any ⟨10, dst, a, b, c, n⟩ _).mono ?_
  rintro e w4 ⟨rfl, hb4⟩
  have z4 := hb4.size
  (try simp at z4)
  have y4_0 : w.heap.size < w4.heap.size := (by omega)
  have y4_1 : w.heap.size + 1 < w4.heap.size := (by omega)
  have y4_2 : w.heap.size + 1 + 1 < w4.heap.size := (by omega)
  have y4_3 : w1.heap.size < w4.heap.size := (by omega)
  have k4_0 := bel_keeps hb4 (b := w.heap.size) (o := 0) (v := .slice a1 rs.length c1) (by first | (go_simp; done) | assumption)
  have k4_1 := bel_keeps hb4 (b := w.heap.size) (o := 1) (v := .slice a2 os.length c2) (by first | (go_simp; done) | assumption)
  have k4_2 := bel_keeps hb4 (b := w.heap.size + 1) (o := 0) (v := .int .i64 10) (by first | (go_simp; done) | assumption)
  have k4_3 := bel_keeps hb4 (b := w.heap.size + 1) (o := 1) (v := .int .i64 dst) (by first | (go_simp; done) | assumption)
  have k4_4 := bel_keeps hb4 (b := w.heap.size + 1) (o := 2) (v := .int .i64 a) (by first | (go_simp; done) | assumption)
  have k4_5 := bel_keeps hb4 (b := w.heap.size + 1) (o := 3) (v := .int .i64 b) (by first | (go_simp; done) | assumption)
  have k4_6 := bel_keeps hb4 (b := w.heap.size + 1) (o := 4) (v := .int .i64 c) (by first | (go_simp; done) | assumption)
  have k4_7 := bel_keeps hb4 (b := w.heap.size + 1) (o := 5) (v := .int .i64 n) (by first | (go_simp; done) | assumption)
  have k4_8 := bel_keeps hb4 (b := w.heap.size + 1 + 1) (o := 0) (v := .slice none 0 0) (by first | (go_simp; done) | assumption)
  have k4_9 := bel_keeps hb4 (b := w.heap.size + 1 + 1) (o := 1) (v := .slice none 0 0) (by first | (go_simp; done) | assumption)
  have k4_10 := bel_keeps hb4 (b := w1.heap.size) (o := 0) (v := .slice (some ⟨g1, 0, none⟩) rs.length d1) (by first | (go_simp; done) | assumption)
  have k4_11 := bel_keeps hb4 (b := w1.heap.size) (o := 1) (v := .slice (some ⟨g2, 0, none⟩) os.length d2) (by first | (go_simp; done) | assumption)
  have f4_0 := bel_free hb4 (b := w.heap.size + 1 + 1) (o := 0) (by first | omega | (simp; done) | (simp; omega)) (by first | (go_simp; done) | assumption)
  have f4_1 := bel_free hb4 (b := w.heap.size + 1 + 1) (o := 1) (by first | omega | (simp; done) | (simp; omega)) (by first | (go_simp; done) | assumption)
  have f4_2 := bel_free hb4 (b := w1.heap.size) (o := 0) (by first | omega | (simp; done) | (simp; omega)) (by first | (go_simp; done) | assumption)
  have f4_3 := bel_free hb4 (b := w1.heap.size) (o := 1) (by first | omega | (simp; done) | (simp; omega)) (by first | (go_simp; done) | assumption)
  clear k3_0 k3_1 k3_2 k3_3 k3_4 k3_5 k3_6 k3_7 k3_8 k3_9 k3_10 k3_11 f3_0 f3_1 f3_2 f3_3
  rw [HS.out]
  go_wp2_with fail
  refine (sInputsOk_any rr _ _ _ hMr hml (HRI.out.below (by (repeat (first | with_reducible exact Below.refl _ _ | (with_reducible refine bel_next ?_ ?_ (by assumption)) | (with_reducible refine Below.alloc ?_ ?_ _) | (with_reducible refine Below.drew ?_) | (with_reducible refine below_drewN ?_ _) | (with_reducible refine Below.setCell ?_ ?_ _))) <;> (first | omega | (simp; done) | (simp; omega))))).mono ?_
  rintro e _ ⟨rfl, rfl⟩
  rw [HIN.out]
  obtain ⟨bba, ooa, haaa, hcca⟩ := (show RdC w4 a1 (I64 rs) from HR1.out.below (by (repeat (first | with_reducible exact Below.refl _ _ | (with_reducible refine bel_next ?_ ?_ (by assumption)) | (with_reducible refine Below.alloc ?_ ?_ _) | (with_reducible refine Below.drew ?_) | (with_reducible refine below_drewN ?_ _) | (with_reducible refine Below.setCell ?_ ?_ _))) <;> (first | omega | (simp; done) | (simp; omega)))).at a.toNat (by have := H8.out; omega)
  have cca := hcca a.toNat (by have := H8.out; omega)
  rw [← HQa.out] at cca
  have lta := lt_of_cell cca
  subst haaa
  clear hcca
  obtain ⟨bbc, ooc, haac, hccc⟩ := (show RdC w4 (some ⟨bba, ooa, none⟩) (I64 rs) from HR1.out.below (by (repeat (first | with_reducible exact Below.refl _ _ | (with_reducible refine bel_next ?_ ?_ (by assumption)) | (with_reducible refine Below.alloc ?_ ?_ _) | (with_reducible refine Below.drew ?_) | (with_reducible refine below_drewN ?_ _) | (with_reducible refine Below.setCell ?_ ?_ _))) <;> (first | omega | (simp; done) | (simp; omega)))).at c.toNat (by have := H8.out; omega)
  simp only [Option.some.injEq, Addr.mk.injEq, and_true] at haac
  obtain ⟨rfl, rfl⟩ := haac
  have ccc := hccc c.toNat (by have := H8.out; omega)
  rw [← HQc.out] at ccc
  clear hccc
  have hab : bba < w.heap.size := by rcases HR1.out with h | ⟨b, o, h, hc⟩ <;> first | (have hz : rs.length = 0 := (by simpa using congrArg List.length h); have := H8.out; omega) | (simp only [Option.some.injEq, Addr.mk.injEq, and_true] at h; obtain ⟨rfl, rfl⟩ := h; exact lt_of_cell (hc 0 (by have := H8.out; simp; omega)))
  obtain ⟨ca, fa⟩ := (show Own w4 _ _ _ _ _ _ _ from hO1.out.later (by (repeat (first | with_reducible exact Kp.refl _ _ | (with_reducible refine Kp.rng ?_ (by assumption) ?_) | (with_reducible refine Kp.below ?_ (by assumption)) | (with_reducible refine Kp.grown ?_ (by assumption) ?_) | (with_reducible refine Kp.alloc ?_ _) | (with_reducible refine Kp.drew ?_) | (with_reducible refine Kp.drewN ?_ _) | (with_reducible refine Kp.setCell ?_ _ ?_))) <;> (first | omega | (simp; done) | (simp; omega)))).get dst.toNat (by simp; exact hdt)
  generalize (I64 rs)[dst.toNat]'_ = u at ca
  have nq0 : w.heap.size ≠ g1 := (by omega)
  have np0 : g1 ≠ w.heap.size := (by omega)
  have nq1 : w.heap.size + 1 ≠ g1 := (by omega)
  have np1 : g1 ≠ w.heap.size + 1 := (by omega)
  have nq2 : w.heap.size + 1 + 1 ≠ g1 := (by omega)
  have np2 : g1 ≠ w.heap.size + 1 + 1 := (by omega)
  have nq3 : w1.heap.size ≠ g1 := (by omega)
  have np3 : g1 ≠ w1.heap.size := (by omega)
  have nq4 : bba ≠ g1 := (by omega)
  have np4 : g1 ≠ bba := (by omega)
  go_wp2_with fail
  go_still_tail 11, (by kernel_rfl)
  change wpList _ _ _ _ _ (World.drew _)
  go_wp2_with fail
  refine (l12Copy_n (rs.set dst.toNat xc) os rs.length os.length _ _ _ _ _ (by simp) rfl (by omega) (by omega) (by rw [← I64_set]; exact (((show Own w4 _ _ _ _ _ _ _ from hO1.out.later (by (repeat (first | with_reducible exact Kp.refl _ _ | (with_reducible refine Kp.rng ?_ (by assumption) ?_) | (with_reducible refine Kp.below ?_ (by assumption)) | (with_reducible refine Kp.grown ?_ (by assumption) ?_) | (with_reducible refine Kp.alloc ?_ _) | (with_reducible refine Kp.drew ?_) | (with_reducible refine Kp.drewN ?_ _) | (with_reducible refine Kp.setCell ?_ _ ?_))) <;> (first | omega | (simp; done) | (simp; omega))))).put _ _).rd) (hO2.out.later (by (repeat (first | with_reducible exact Kp.refl _ _ | (with_reducible refine Kp.rng ?_ (by assumption) ?_) | (with_reducible refine Kp.below ?_ (by assumption)) | (with_reducible refine Kp.grown ?_ (by assumption) ?_) | (with_reducible refine Kp.alloc ?_ _) | (with_reducible refine Kp.drew ?_) | (with_reducible refine Kp.drewN ?_ _) | (with_reducible refine Kp.setCell ?_ _ ?_))) <;> (first | omega | (simp; done) | (simp; omega)))).rd (by intro h; cases h) (by intro h; cases h)).mono ?_
  rintro e w6' ⟨g5, d5, g6, d6, rfl, ho5, ho6, hne5, hb6'⟩
  have z6' := hb6'.size
  (try simp at z6')
  have e6_0 := bel_keeps hb6' (b := w.heap.size + 1 + 1) (o := 0) (v := .slice none 0 0) (by first | (go_simp; done) | assumption)
  have e7_0 := bel_free hb6' (b := w.heap.size + 1 + 1) (o := 0) (by first | omega | (simp; done) | (simp; omega)) (by first | (go_simp; done) | assumption)
  have e6_1 := bel_keeps hb6' (b := w.heap.size + 1 + 1) (o := 1) (v := .slice none 0 0) (by first | (go_simp; done) | assumption)
  have e7_1 := bel_free hb6' (b := w.heap.size + 1 + 1) (o := 1) (by first | omega | (simp; done) | (simp; omega)) (by first | (go_simp; done) | assumption)
  have l5 := ho5.ge
  have l6 := ho6.ge
  (try simp at l5)
  (try simp at l6)
  have HO5 := Lib.hid ho5
  have HO6 := Lib.hid ho6
  clear ho5 ho6
  go_wp2_with fail
  refine bodyPost_ret (v := .agg #[.slice (some ⟨g5, 0, none⟩) (rs.length) d5, .slice (some ⟨g6, 0, none⟩) (os.length) d6]) (by simp [results, Try.results54, go_sem, e6_0, e6_1, e7_0, e7_1]) rfl ⟨g5, d5, g6, d6, by simp, ?_, ?_, hne5, ?_⟩
  · simpa using (HO5.out.lo (lo' := w.heap.size) (by first | omega | (simp; done) | (simp; omega))).later (by (repeat (first | with_reducible exact Kp.refl _ _ | (with_reducible refine Kp.rng ?_ (by assumption) ?_) | (with_reducible refine Kp.below ?_ (by assumption)) | (with_reducible refine Kp.grown ?_ (by assumption) ?_) | (with_reducible refine Kp.alloc ?_ _) | (with_reducible refine Kp.drew ?_) | (with_reducible refine Kp.drewN ?_ _) | (with_reducible refine Kp.setCell ?_ _ ?_))) <;> (first | omega | (simp; done) | (simp; omega)))
  · simpa using (HO6.out.lo (lo' := w.heap.size) (by first | omega | (simp; done) | (simp; omega))).later (by (repeat (first | with_reducible exact Kp.refl _ _ | (with_reducible refine Kp.rng ?_ (by assumption) ?_) | (with_reducible refine Kp.below ?_ (by assumption)) | (with_reducible refine Kp.grown ?_ (by assumption) ?_) | (with_reducible refine Kp.alloc ?_ _) | (with_reducible refine Kp.drew ?_) | (with_reducible refine Kp.drewN ?_ _) | (with_reducible refine Kp.setCell ?_ _ ?_))) <;> (first | omega | (simp; done) | (simp; omega)))
  · exact (by (repeat (first | with_reducible exact Below.refl _ _ | (with_reducible refine bel_next ?_ ?_ (by assumption)) | (with_reducible refine Below.alloc ?_ ?_ _) | (with_reducible refine Below.drew ?_) | (with_reducible refine below_drewN ?_ _) | (with_reducible refine Below.setCell ?_ ?_ _))) <;> (first | omega | (simp; done) | (simp; omega)))
set_option maxRecDepth 20000 in
set_option maxHeartbeats 8000000 in
theorem sStep_mux1 (rs os : List Int) (a1 a2 : Option Addr) (c1 c2 : Nat) (dst a b c n : Int) (rr : List Rw) (ai : Option Addr) (ci : Nat) (w : World) (hm1 : rs.length ≤ 1048576) (hm2 : os.length ≤ 1048576) (hr1 : RdC w a1 (I64 rs)) (hr2 : RdC w a2 (I64 os)) (hmr : rr.length ≤ 1048576) (hml : rowsLe rr) (hri : RdR w ai rr) (h1 : stateOk rs os = true) (h2 : plainB ⟨10, dst, a, b, c, n⟩ = true) (h3 : inputsOk (rr.map Rw.xs) = true) (hb : bits .and .i64 (rgd rs a) 1 = 1) :
    Calls Try.prog 54 #[.agg #[.slice a1 rs.length c1, .slice a2 os.length c2], stV ⟨10, dst, a, b, c, n⟩, .slice ai rr.length ci] w fun e w' => ∃ g1 d1 g2 d2, e = .returned (.agg #[.slice (some ⟨g1, 0, none⟩) (stepRegs rs os ⟨10, dst, a, b, c, n⟩ (rr.map Rw.xs)).length d1, .slice (some ⟨g2, 0, none⟩) (stepOuts rs os ⟨10, dst, a, b, c, n⟩ (rr.map Rw.xs)).length d2]) ∧
      Own w' w.heap.size 3 1 (some ⟨g1, 0, none⟩) (stepRegs rs os ⟨10, dst, a, b, c, n⟩ (rr.map Rw.xs)).length d1 (I64 (stepRegs rs os ⟨10, dst, a, b, c, n⟩ (rr.map Rw.xs))) ∧ Own w' w.heap.size 3 1 (some ⟨g2, 0, none⟩) (stepOuts rs os ⟨10, dst, a, b, c, n⟩ (rr.map Rw.xs)).length d2 (I64 (stepOuts rs os ⟨10, dst, a, b, c, n⟩ (rr.map Rw.xs))) ∧ g1 ≠ g2 ∧ Below w.heap.size w w' := by
  have hM1 : rs.length ≤ maxLen := by unfold maxLen; omega
  have hM2 : os.length ≤ maxLen := by unfold maxLen; omega
  have hMr : rr.length ≤ maxLen := by unfold maxLen; omega
  have HN1 := Lib.hid (rd_none hr1)
  have HN2 := Lib.hid (rd_none hr2)
  have HR1 := Lib.hid hr1
  have HR2 := Lib.hid hr2
  have HRI := Lib.hid hri
  clear hr1 hr2 hri
  have hB : stepB ⟨10, dst, a, b, c, n⟩ rs os (rr.map Rw.xs) = true := by simp [stepB, h1, h2, h3]
  have hst : stOk ⟨10, dst, a, b, c, n⟩ = true := by have h := h2; simp [plainB] at h; first | exact h | exact h.1
  
  have hh := stok_regs hst
  simp only at hh
  obtain ⟨o1, o13, r0, r1, r2, r3, r4, r5, r6, r7⟩ := hh
  have h8 := stateOk_len h1
  have h5 := inputs_len h3
  obtain ⟨v, hv⟩ : ∃ v, v = stepVal ⟨10, dst, a, b, c, n⟩ rs (rr.map Rw.xs) := ⟨_, rfl⟩
  have e1 : (stepRegs rs os ⟨10, dst, a, b, c, n⟩ (rr.map Rw.xs)) = rs.set dst.toNat v := by simp [stepRegs, hB, hv]
  have e2 : (stepOuts rs os ⟨10, dst, a, b, c, n⟩ (rr.map Rw.xs)) = os := by simp [stepOuts]
  have hv2 : v = rgd rs b := by rw [hv]; simp [stepVal, hb]
  clear hv
  rw [e1, e2]
  clear hB e1 e2
  have H8 := Lib.hid h8
  have H5 := Lib.hid h5
  have HST := Lib.hid h1
  have HS := Lib.hid hst
  have HIN := Lib.hid h3
  clear h1 h2 h3 hst h8 h5
  have hta : a.toNat < rs.length := by have := H8.out; omega
  have hxa : rgd rs a = rs[a.toNat] := rgd_at hta
  obtain ⟨xa, hqa⟩ : ∃ x, x = rs[a.toNat] := ⟨_, rfl⟩
  rw [← hqa] at hxa
  have hia : a < (rs.length : Int) := by have := H8.out; omega
  have htb : b.toNat < rs.length := by have := H8.out; omega
  have hxb : rgd rs b = rs[b.toNat] := rgd_at htb
  obtain ⟨xb, hqb⟩ : ∃ x, x = rs[b.toNat] := ⟨_, rfl⟩
  rw [← hqb] at hxb
  have hib : b < (rs.length : Int) := by have := H8.out; omega
  have htc : c.toNat < rs.length := by have := H8.out; omega
  have hxc : rgd rs c = rs[c.toNat] := rgd_at htc
  obtain ⟨xc, hqc⟩ : ∃ x, x = rs[c.toNat] := ⟨_, rfl⟩
  rw [← hqc] at hxc
  have hic : c < (rs.length : Int) := by have := H8.out; omega
  rw [hxa] at hb
  rw [hxb] at hv2
  rw [hv2]
  have tb : (bits .and .i64 xa 1 == 1) = true := by simp [hb]
  clear hb hxa hxb hv2
  have hdt : dst.toNat < rs.length := by have := H8.out; omega
  have hd8 : dst < (rs.length : Int) := by have := H8.out; omega
  have HQa := Lib.hid hqa
  clear hqa
  have HQb := Lib.hid hqb
  clear hqb
  have HQc := Lib.hid hqc
  clear hqc
  unfold stV
  go_enter Try.func54, Try.ntmps54
  go_wp2_with fail
  obtain ⟨w0, hw0⟩ : ∃ W, W = ((w.alloc (.cells #[.slice a1 rs.length c1, .slice a2 os.length c2] 57)).alloc (.cells #[.int .i64 10, .int .i64 dst, .int .i64 a, .int .i64 b, .int .i64 c, .int .i64 n] 38)).alloc (.cells #[.slice none 0 0, .slice none 0 0] 57) := ⟨_, rfl⟩
  rw [← hw0]
  have hb0 : Below w.heap.size w w0 := by rw [hw0]; exact (by (repeat (first | with_reducible exact Below.refl _ _ | (with_reducible refine bel_next ?_ ?_ (by assumption)) | (with_reducible refine Below.alloc ?_ ?_ _) | (with_reducible refine Below.drew ?_) | (with_reducible refine below_drewN ?_ _) | (with_reducible refine Below.setCell ?_ ?_ _))) <;> (first | omega | (simp; done) | (simp; omega)))
  have z0 : w.heap.size + 1 + 1 < w0.heap.size := by rw [hw0]; simp
  have k0_0 : w0.cell? ⟨w.heap.size, 0, none⟩ = some (.slice a1 rs.length c1) := by rw [hw0]; go_simp
  have k0_1 : w0.cell? ⟨w.heap.size, 1, none⟩ = some (.slice a2 os.length c2) := by rw [hw0]; go_simp
  have k0_2 : w0.cell? ⟨w.heap.size + 1, 0, none⟩ = some (.int .i64 10) := by rw [hw0]; go_simp
  have k0_3 : w0.cell? ⟨w.heap.size + 1, 1, none⟩ = some (.int .i64 dst) := by rw [hw0]; go_simp
  have k0_4 : w0.cell? ⟨w.heap.size + 1, 2, none⟩ = some (.int .i64 a) := by rw [hw0]; go_simp
  have k0_5 : w0.cell? ⟨w.heap.size + 1, 3, none⟩ = some (.int .i64 b) := by rw [hw0]; go_simp
  have k0_6 : w0.cell? ⟨w.heap.size + 1, 4, none⟩ = some (.int .i64 c) := by rw [hw0]; go_simp
  have k0_7 : w0.cell? ⟨w.heap.size + 1, 5, none⟩ = some (.int .i64 n) := by rw [hw0]; go_simp
  have k0_8 : w0.cell? ⟨w.heap.size + 1 + 1, 0, none⟩ = some (.slice none 0 0) := by rw [hw0]; go_simp
  have k0_9 : w0.cell? ⟨w.heap.size + 1 + 1, 1, none⟩ = some (.slice none 0 0) := by rw [hw0]; go_simp
  have f0_0 : w0.frozen? ⟨w.heap.size + 1 + 1, 0, none⟩ = false := by rw [hw0]; go_simp
  have f0_1 : w0.frozen? ⟨w.heap.size + 1 + 1, 1, none⟩ = false := by rw [hw0]; go_simp
  clear hw0
  refine (l12Copy_any rs os a1 a2 c1 c2 _ (by omega) (by omega) (HR1.out.below (by (repeat (first | with_reducible exact Below.refl _ _ | (with_reducible refine bel_next ?_ ?_ (by assumption)) | (with_reducible refine Below.alloc ?_ ?_ _) | (with_reducible refine Below.drew ?_) | (with_reducible refine below_drewN ?_ _) | (with_reducible refine Below.setCell ?_ ?_ _))) <;> (first | omega | (simp; done) | (simp; omega)))) (HR2.out.below (by (repeat (first | with_reducible exact Below.refl _ _ | (with_reducible refine bel_next ?_ ?_ (by assumption)) | (with_reducible refine Below.alloc ?_ ?_ _) | (with_reducible refine Below.drew ?_) | (with_reducible refine below_drewN ?_ _) | (with_reducible refine Below.setCell ?_ ?_ _))) <;> (first | omega | (simp; done) | (simp; omega)))) HN1.out HN2.out).mono ?_
  rintro e w1 ⟨g1, d1, g2, d2, rfl, ho1, ho2, hne, hb1⟩
  have z1 := hb1.size
  (try simp at z1)
  have y1_0 : w.heap.size < w1.heap.size := (by omega)
  have y1_1 : w.heap.size + 1 < w1.heap.size := (by omega)
  have y1_2 : w.heap.size + 1 + 1 < w1.heap.size := (by omega)
  have k1_0 := bel_keeps hb1 (b := w.heap.size) (o := 0) (v := .slice a1 rs.length c1) (by first | (go_simp; done) | assumption)
  have k1_1 := bel_keeps hb1 (b := w.heap.size) (o := 1) (v := .slice a2 os.length c2) (by first | (go_simp; done) | assumption)
  have k1_2 := bel_keeps hb1 (b := w.heap.size + 1) (o := 0) (v := .int .i64 10) (by first | (go_simp; done) | assumption)
  have k1_3 := bel_keeps hb1 (b := w.heap.size + 1) (o := 1) (v := .int .i64 dst) (by first | (go_simp; done) | assumption)
  have k1_4 := bel_keeps hb1 (b := w.heap.size + 1) (o := 2) (v := .int .i64 a) (by first | (go_simp; done) | assumption)
  have k1_5 := bel_keeps hb1 (b := w.heap.size + 1) (o := 3) (v := .int .i64 b) (by first | (go_simp; done) | assumption)
  have k1_6 := bel_keeps hb1 (b := w.heap.size + 1) (o := 4) (v := .int .i64 c) (by first | (go_simp; done) | assumption)
  have k1_7 := bel_keeps hb1 (b := w.heap.size + 1) (o := 5) (v := .int .i64 n) (by first | (go_simp; done) | assumption)
  have k1_8 := bel_keeps hb1 (b := w.heap.size + 1 + 1) (o := 0) (v := .slice none 0 0) (by first | (go_simp; done) | assumption)
  have k1_9 := bel_keeps hb1 (b := w.heap.size + 1 + 1) (o := 1) (v := .slice none 0 0) (by first | (go_simp; done) | assumption)
  have f1_0 := bel_free hb1 (b := w.heap.size + 1 + 1) (o := 0) (by first | omega | (simp; done) | (simp; omega)) (by first | (go_simp; done) | assumption)
  have f1_1 := bel_free hb1 (b := w.heap.size + 1 + 1) (o := 1) (by first | omega | (simp; done) | (simp; omega)) (by first | (go_simp; done) | assumption)
  clear k0_0 k0_1 k0_2 k0_3 k0_4 k0_5 k0_6 k0_7 k0_8 k0_9 f0_0 f0_1
  have lg1 := ho1.ge
  have lg2 := ho2.ge
  have hO1 := Lib.hid ho1
  have hO2 := Lib.hid ho2
  clear ho1 ho2
  go_wp2_with fail
  obtain ⟨w2, hw2⟩ : ∃ W, W = w1.alloc (.cells #[.slice (some ⟨g1, 0, none⟩) rs.length d1, .slice (some ⟨g2, 0, none⟩) os.length d2] 57) := ⟨_, rfl⟩
  rw [← hw2]
  have hb2 : Below w1.heap.size w1 w2 := by rw [hw2]; exact (Below.refl _ _).alloc (Nat.le_refl _) _
  have x2 : w1.heap.size < w2.heap.size := by rw [hw2]; simp
  have z2 := hb2.size
  (try simp at z2)
  have y2_0 : w.heap.size < w2.heap.size := (by omega)
  have y2_1 : w.heap.size + 1 < w2.heap.size := (by omega)
  have y2_2 : w.heap.size + 1 + 1 < w2.heap.size := (by omega)
  have k2_0 := bel_keeps hb2 (b := w.heap.size) (o := 0) (v := .slice a1 rs.length c1) (by first | (go_simp; done) | assumption)
  have k2_1 := bel_keeps hb2 (b := w.heap.size) (o := 1) (v := .slice a2 os.length c2) (by first | (go_simp; done) | assumption)
  have k2_2 := bel_keeps hb2 (b := w.heap.size + 1) (o := 0) (v := .int .i64 10) (by first | (go_simp; done) | assumption)
  have k2_3 := bel_keeps hb2 (b := w.heap.size + 1) (o := 1) (v := .int .i64 dst) (by first | (go_simp; done) | assumption)
  have k2_4 := bel_keeps hb2 (b := w.heap.size + 1) (o := 2) (v := .int .i64 a) (by first | (go_simp; done) | assumption)
  have k2_5 := bel_keeps hb2 (b := w.heap.size + 1) (o := 3) (v := .int .i64 b) (by first | (go_simp; done) | assumption)
  have k2_6 := bel_keeps hb2 (b := w.heap.size + 1) (o := 4) (v := .int .i64 c) (by first | (go_simp; done) | assumption)
  have k2_7 := bel_keeps hb2 (b := w.heap.size + 1) (o := 5) (v := .int .i64 n) (by first | (go_simp; done) | assumption)
  have k2_8 := bel_keeps hb2 (b := w.heap.size + 1 + 1) (o := 0) (v := .slice none 0 0) (by first | (go_simp; done) | assumption)
  have k2_9 := bel_keeps hb2 (b := w.heap.size + 1 + 1) (o := 1) (v := .slice none 0 0) (by first | (go_simp; done) | assumption)
  have f2_0 := bel_free hb2 (b := w.heap.size + 1 + 1) (o := 0) (by first | omega | (simp; done) | (simp; omega)) (by first | (go_simp; done) | assumption)
  have f2_1 := bel_free hb2 (b := w.heap.size + 1 + 1) (o := 1) (by first | omega | (simp; done) | (simp; omega)) (by first | (go_simp; done) | assumption)
  clear k1_0 k1_1 k1_2 k1_3 k1_4 k1_5 k1_6 k1_7 k1_8 k1_9 f1_0 f1_1
  have kb2_0 : w2.cell? ⟨w1.heap.size, 0, none⟩ = some (.slice (some ⟨g1, 0, none⟩) rs.length d1) := by rw [hw2]; go_simp
  have kb2_1 : w2.cell? ⟨w1.heap.size, 1, none⟩ = some (.slice (some ⟨g2, 0, none⟩) os.length d2) := by rw [hw2]; go_simp
  have kf2_0 : w2.frozen? ⟨w1.heap.size, 0, none⟩ = false := by rw [hw2]; go_simp
  have kf2_1 : w2.frozen? ⟨w1.heap.size, 1, none⟩ = false := by rw [hw2]; go_simp
  clear hw2
  go_wp2_with fail
  refine (sStateOk_any rs os _ _ _ _ _ hM1 hM2 (HR1.out.below (by (repeat (first | with_reducible exact Below.refl _ _ | (with_reducible refine bel_next ?_ ?_ (by assumption)) | (with_reducible refine Below.alloc ?_ ?_ _) | (with_reducible refine Below.drew ?_) | (with_reducible refine below_drewN ?_ _) | (with_reducible refine Below.setCell ?_ ?_ _))) <;> (first | omega | (simp; done) | (simp; omega)))) (HR2.out.below (by (repeat (first | with_reducible exact Below.refl _ _ | (with_reducible refine bel_next ?_ ?_ (by assumption)) | (with_reducible refine Below.alloc ?_ ?_ _) | (with_reducible refine Below.drew ?_) | (with_reducible refine below_drewN ?_ _) | (with_reducible refine Below.setCell ?_ ?_ _))) <;> (first | omega | (simp; done) | (simp; omega))))).mono ?_
  rintro e w3 ⟨rfl, hb3⟩
  have z3 := hb3.size
  (try simp at z3)
  have y3_0 : w.heap.size < w3.heap.size := (by omega)
  have y3_1 : w.heap.size + 1 < w3.heap.size := (by omega)
  have y3_2 : w.heap.size + 1 + 1 < w3.heap.size := (by omega)
  have y3_3 : w1.heap.size < w3.heap.size := (by omega)
  have k3_0 := bel_keeps hb3 (b := w.heap.size) (o := 0) (v := .slice a1 rs.length c1) (by first | (go_simp; done) | assumption)
  have k3_1 := bel_keeps hb3 (b := w.heap.size) (o := 1) (v := .slice a2 os.length c2) (by first | (go_simp; done) | assumption)
  have k3_2 := bel_keeps hb3 (b := w.heap.size + 1) (o := 0) (v := .int .i64 10) (by first | (go_simp; done) | assumption)
  have k3_3 := bel_keeps hb3 (b := w.heap.size + 1) (o := 1) (v := .int .i64 dst) (by first | (go_simp; done) | assumption)
  have k3_4 := bel_keeps hb3 (b := w.heap.size + 1) (o := 2) (v := .int .i64 a) (by first | (go_simp; done) | assumption)
  have k3_5 := bel_keeps hb3 (b := w.heap.size + 1) (o := 3) (v := .int .i64 b) (by first | (go_simp; done) | assumption)
  have k3_6 := bel_keeps hb3 (b := w.heap.size + 1) (o := 4) (v := .int .i64 c) (by first | (go_simp; done) | assumption)
  have k3_7 := bel_keeps hb3 (b := w.heap.size + 1) (o := 5) (v := .int .i64 n) (by first | (go_simp; done) | assumption)
  have k3_8 := bel_keeps hb3 (b := w.heap.size + 1 + 1) (o := 0) (v := .slice none 0 0) (by first | (go_simp; done) | assumption)
  have k3_9 := bel_keeps hb3 (b := w.heap.size + 1 + 1) (o := 1) (v := .slice none 0 0) (by first | (go_simp; done) | assumption)
  have k3_10 := bel_keeps hb3 (b := w1.heap.size) (o := 0) (v := .slice (some ⟨g1, 0, none⟩) rs.length d1) (by first | (go_simp; done) | assumption)
  have k3_11 := bel_keeps hb3 (b := w1.heap.size) (o := 1) (v := .slice (some ⟨g2, 0, none⟩) os.length d2) (by first | (go_simp; done) | assumption)
  have f3_0 := bel_free hb3 (b := w.heap.size + 1 + 1) (o := 0) (by first | omega | (simp; done) | (simp; omega)) (by first | (go_simp; done) | assumption)
  have f3_1 := bel_free hb3 (b := w.heap.size + 1 + 1) (o := 1) (by first | omega | (simp; done) | (simp; omega)) (by first | (go_simp; done) | assumption)
  have f3_2 := bel_free hb3 (b := w1.heap.size) (o := 0) (by first | omega | (simp; done) | (simp; omega)) (by first | (go_simp; done) | assumption)
  have f3_3 := bel_free hb3 (b := w1.heap.size) (o := 1) (by first | omega | (simp; done) | (simp; omega)) (by first | (go_simp; done) | assumption)
  clear k2_0 k2_1 k2_2 k2_3 k2_4 k2_5 k2_6 k2_7 k2_8 k2_9 kb2_0 kb2_1 f2_0 f2_1 kf2_0 kf2_1
  rw [HST.out]
  go_wp2_with fail
  refine (sStmtOk_any ⟨10, dst, a, b, c, n⟩ _).mono ?_
  rintro e w4 ⟨rfl, hb4⟩
  have z4 := hb4.size
  (try simp at z4)
  have y4_0 : w.heap.size < w4.heap.size := (by omega)
  have y4_1 : w.heap.size + 1 < w4.heap.size := (by omega)
  have y4_2 : w.heap.size + 1 + 1 < w4.heap.size := (by omega)
  have y4_3 : w1.heap.size < w4.heap.size := (by omega)
  have k4_0 := bel_keeps hb4 (b := w.heap.size) (o := 0) (v := .slice a1 rs.length c1) (by first | (go_simp; done) | assumption)
  have k4_1 := bel_keeps hb4 (b := w.heap.size) (o := 1) (v := .slice a2 os.length c2) (by first | (go_simp; done) | assumption)
  have k4_2 := bel_keeps hb4 (b := w.heap.size + 1) (o := 0) (v := .int .i64 10) (by first | (go_simp; done) | assumption)
  have k4_3 := bel_keeps hb4 (b := w.heap.size + 1) (o := 1) (v := .int .i64 dst) (by first | (go_simp; done) | assumption)
  have k4_4 := bel_keeps hb4 (b := w.heap.size + 1) (o := 2) (v := .int .i64 a) (by first | (go_simp; done) | assumption)
  have k4_5 := bel_keeps hb4 (b := w.heap.size + 1) (o := 3) (v := .int .i64 b) (by first | (go_simp; done) | assumption)
  have k4_6 := bel_keeps hb4 (b := w.heap.size + 1) (o := 4) (v := .int .i64 c) (by first | (go_simp; done) | assumption)
  have k4_7 := bel_keeps hb4 (b := w.heap.size + 1) (o := 5) (v := .int .i64 n) (by first | (go_simp; done) | assumption)
  have k4_8 := bel_keeps hb4 (b := w.heap.size + 1 + 1) (o := 0) (v := .slice none 0 0) (by first | (go_simp; done) | assumption)
  have k4_9 := bel_keeps hb4 (b := w.heap.size + 1 + 1) (o := 1) (v := .slice none 0 0) (by first | (go_simp; done) | assumption)
  have k4_10 := bel_keeps hb4 (b := w1.heap.size) (o := 0) (v := .slice (some ⟨g1, 0, none⟩) rs.length d1) (by first | (go_simp; done) | assumption)
  have k4_11 := bel_keeps hb4 (b := w1.heap.size) (o := 1) (v := .slice (some ⟨g2, 0, none⟩) os.length d2) (by first | (go_simp; done) | assumption)
  have f4_0 := bel_free hb4 (b := w.heap.size + 1 + 1) (o := 0) (by first | omega | (simp; done) | (simp; omega)) (by first | (go_simp; done) | assumption)
  have f4_1 := bel_free hb4 (b := w.heap.size + 1 + 1) (o := 1) (by first | omega | (simp; done) | (simp; omega)) (by first | (go_simp; done) | assumption)
  have f4_2 := bel_free hb4 (b := w1.heap.size) (o := 0) (by first | omega | (simp; done) | (simp; omega)) (by first | (go_simp; done) | assumption)
  have f4_3 := bel_free hb4 (b := w1.heap.size) (o := 1) (by first | omega | (simp; done) | (simp; omega)) (by first | (go_simp; done) | assumption)
  clear k3_0 k3_1 k3_2 k3_3 k3_4 k3_5 k3_6 k3_7 k3_8 k3_9 k3_10 k3_11 f3_0 f3_1 f3_2 f3_3
  rw [HS.out]
  go_wp2_with fail
  refine (sInputsOk_any rr _ _ _ hMr hml (HRI.out.below (by (repeat (first | with_reducible exact Below.refl _ _ | (with_reducible refine bel_next ?_ ?_ (by assumption)) | (with_reducible refine Below.alloc ?_ ?_ _) | (with_reducible refine Below.drew ?_) | (with_reducible refine below_drewN ?_ _) | (with_reducible refine Below.setCell ?_ ?_ _))) <;> (first | omega | (simp; done) | (simp; omega))))).mono ?_
  rintro e _ ⟨rfl, rfl⟩
  rw [HIN.out]
  obtain ⟨bba, ooa, haaa, hcca⟩ := (show RdC w4 a1 (I64 rs) from HR1.out.below (by (repeat (first | with_reducible exact Below.refl _ _ | (with_reducible refine bel_next ?_ ?_ (by assumption)) | (with_reducible refine Below.alloc ?_ ?_ _) | (with_reducible refine Below.drew ?_) | (with_reducible refine below_drewN ?_ _) | (with_reducible refine Below.setCell ?_ ?_ _))) <;> (first | omega | (simp; done) | (simp; omega)))).at a.toNat (by have := H8.out; omega)
  have cca := hcca a.toNat (by have := H8.out; omega)
  rw [← HQa.out] at cca
  have lta := lt_of_cell cca
  subst haaa
  clear hcca
  obtain ⟨bbb, oob, haab, hccb⟩ := (show RdC w4 (some ⟨bba, ooa, none⟩) (I64 rs) from HR1.out.below (by (repeat (first | with_reducible exact Below.refl _ _ | (with_reducible refine bel_next ?_ ?_ (by assumption)) | (with_reducible refine Below.alloc ?_ ?_ _) | (with_reducible refine Below.drew ?_) | (with_reducible refine below_drewN ?_ _) | (with_reducible refine Below.setCell ?_ ?_ _))) <;> (first | omega | (simp; done) | (simp; omega)))).at b.toNat (by have := H8.out; omega)
  simp only [Option.some.injEq, Addr.mk.injEq, and_true] at haab
  obtain ⟨rfl, rfl⟩ := haab
  have ccb := hccb b.toNat (by have := H8.out; omega)
  rw [← HQb.out] at ccb
  clear hccb
  obtain ⟨bbc, ooc, haac, hccc⟩ := (show RdC w4 (some ⟨bba, ooa, none⟩) (I64 rs) from HR1.out.below (by (repeat (first | with_reducible exact Below.refl _ _ | (with_reducible refine bel_next ?_ ?_ (by assumption)) | (with_reducible refine Below.alloc ?_ ?_ _) | (with_reducible refine Below.drew ?_) | (with_reducible refine below_drewN ?_ _) | (with_reducible refine Below.setCell ?_ ?_ _))) <;> (first | omega | (simp; done) | (simp; omega)))).at c.toNat (by have := H8.out; omega)
  simp only [Option.some.injEq, Addr.mk.injEq, and_true] at haac
  obtain ⟨rfl, rfl⟩ := haac
  have ccc := hccc c.toNat (by have := H8.out; omega)
  rw [← HQc.out] at ccc
  clear hccc
  have hab : bba < w.heap.size := by rcases HR1.out with h | ⟨b, o, h, hc⟩ <;> first | (have hz : rs.length = 0 := (by simpa using congrArg List.length h); have := H8.out; omega) | (simp only [Option.some.injEq, Addr.mk.injEq, and_true] at h; obtain ⟨rfl, rfl⟩ := h; exact lt_of_cell (hc 0 (by have := H8.out; simp; omega)))
  obtain ⟨ca, fa⟩ := (show Own w4 _ _ _ _ _ _ _ from hO1.out.later (by (repeat (first | with_reducible exact Kp.refl _ _ | (with_reducible refine Kp.rng ?_ (by assumption) ?_) | (with_reducible refine Kp.below ?_ (by assumption)) | (with_reducible refine Kp.grown ?_ (by assumption) ?_) | (with_reducible refine Kp.alloc ?_ _) | (with_reducible refine Kp.drew ?_) | (with_reducible refine Kp.drewN ?_ _) | (with_reducible refine Kp.setCell ?_ _ ?_))) <;> (first | omega | (simp; done) | (simp; omega)))).get dst.toNat (by simp; exact hdt)
  generalize (I64 rs)[dst.toNat]'_ = u at ca
  have nq0 : w.heap.size ≠ g1 := (by omega)
  have np0 : g1 ≠ w.heap.size := (by omega)
  have nq1 : w.heap.size + 1 ≠ g1 := (by omega)
  have np1 : g1 ≠ w.heap.size + 1 := (by omega)
  have nq2 : w.heap.size + 1 + 1 ≠ g1 := (by omega)
  have np2 : g1 ≠ w.heap.size + 1 + 1 := (by omega)
  have nq3 : w1.heap.size ≠ g1 := (by omega)
  have np3 : g1 ≠ w1.heap.size := (by omega)
  have nq4 : bba ≠ g1 := (by omega)
  have np4 : g1 ≠ bba := (by omega)
  go_wp2_with fail
  go_still_tail 11, (by kernel_rfl)
  change wpList _ _ _ _ _ (World.drew _)
  go_wp2_with fail
  obtain ⟨w5, hw5⟩ : ∃ W, W = (World.setCell w4 ⟨g1, dst.toNat, none⟩ (.int .i64 xc)).drew := ⟨_, rfl⟩
  rw [← hw5]
  have hr5 : Rng g1 (g1 + 1) w4 w5 := by rw [hw5]; intro q hq; exact (by (repeat (first | with_reducible exact Kp.refl _ _ | (with_reducible refine Kp.rng ?_ (by assumption) ?_) | (with_reducible refine Kp.below ?_ (by assumption)) | (with_reducible refine Kp.grown ?_ (by assumption) ?_) | (with_reducible refine Kp.alloc ?_ _) | (with_reducible refine Kp.drew ?_) | (with_reducible refine Kp.drewN ?_ _) | (with_reducible refine Kp.setCell ?_ _ ?_))) <;> (first | omega | (simp; done) | (simp; omega)))
  have hb5 : Below w.heap.size w w5 := by rw [hw5]; exact (by (repeat (first | with_reducible exact Below.refl _ _ | (with_reducible refine bel_next ?_ ?_ (by assumption)) | (with_reducible refine Below.alloc ?_ ?_ _) | (with_reducible refine Below.drew ?_) | (with_reducible refine below_drewN ?_ _) | (with_reducible refine Below.setCell ?_ ?_ _))) <;> (first | omega | (simp; done) | (simp; omega)))
  have zz5 : w4.heap.size ≤ w5.heap.size := by rw [hw5]; simp [World.setCell, World.drew]
  have o15 : Own w5 w0.heap.size 3 1 (some ⟨g1, 0, none⟩) rs.length d1 ((I64 rs).set dst.toNat (.int .i64 xc)) := by rw [hw5]; exact ((show Own w4 _ _ _ _ _ _ _ from hO1.out.later (by (repeat (first | with_reducible exact Kp.refl _ _ | (with_reducible refine Kp.rng ?_ (by assumption) ?_) | (with_reducible refine Kp.below ?_ (by assumption)) | (with_reducible refine Kp.grown ?_ (by assumption) ?_) | (with_reducible refine Kp.alloc ?_ _) | (with_reducible refine Kp.drew ?_) | (with_reducible refine Kp.drewN ?_ _) | (with_reducible refine Kp.setCell ?_ _ ?_))) <;> (first | omega | (simp; done) | (simp; omega)))).put dst.toNat (.int .i64 xc)).drew
  have ca5 : w5.cell? ⟨g1, dst.toNat, none⟩ = some (.int .i64 xc) := by rw [hw5]; go_simp
  have fa5 : w5.frozen? ⟨g1, dst.toNat, none⟩ = false := by rw [hw5]; go_simp
  have z5 := hb5.size
  (try simp at z5)
  have y5_0 : w.heap.size < w5.heap.size := (by omega)
  have y5_1 : w.heap.size + 1 < w5.heap.size := (by omega)
  have y5_2 : w.heap.size + 1 + 1 < w5.heap.size := (by omega)
  have y5_3 : w1.heap.size < w5.heap.size := (by omega)
  have y5_4 : bba < w5.heap.size := (by omega)
  have k5_0 : w5.cell? ⟨w.heap.size, 0, none⟩ = some (.slice (some ⟨bba, ooa, none⟩) rs.length c1) := hr5.keeps (by omega) (by first | (go_simp; done) | assumption)
  have k5_1 : w5.cell? ⟨w.heap.size, 1, none⟩ = some (.slice a2 os.length c2) := hr5.keeps (by omega) (by first | (go_simp; done) | assumption)
  have k5_2 : w5.cell? ⟨w.heap.size + 1, 0, none⟩ = some (.int .i64 10) := hr5.keeps (by omega) (by first | (go_simp; done) | assumption)
  have k5_3 : w5.cell? ⟨w.heap.size + 1, 1, none⟩ = some (.int .i64 dst) := hr5.keeps (by omega) (by first | (go_simp; done) | assumption)
  have k5_4 : w5.cell? ⟨w.heap.size + 1, 2, none⟩ = some (.int .i64 a) := hr5.keeps (by omega) (by first | (go_simp; done) | assumption)
  have k5_5 : w5.cell? ⟨w.heap.size + 1, 3, none⟩ = some (.int .i64 b) := hr5.keeps (by omega) (by first | (go_simp; done) | assumption)
  have k5_6 : w5.cell? ⟨w.heap.size + 1, 4, none⟩ = some (.int .i64 c) := hr5.keeps (by omega) (by first | (go_simp; done) | assumption)
  have k5_7 : w5.cell? ⟨w.heap.size + 1, 5, none⟩ = some (.int .i64 n) := hr5.keeps (by omega) (by first | (go_simp; done) | assumption)
  have k5_8 : w5.cell? ⟨w.heap.size + 1 + 1, 0, none⟩ = some (.slice none 0 0) := hr5.keeps (by omega) (by first | (go_simp; done) | assumption)
  have k5_9 : w5.cell? ⟨w.heap.size + 1 + 1, 1, none⟩ = some (.slice none 0 0) := hr5.keeps (by omega) (by first | (go_simp; done) | assumption)
  have k5_10 : w5.cell? ⟨w1.heap.size, 0, none⟩ = some (.slice (some ⟨g1, 0, none⟩) rs.length d1) := hr5.keeps (by omega) (by first | (go_simp; done) | assumption)
  have k5_11 : w5.cell? ⟨w1.heap.size, 1, none⟩ = some (.slice (some ⟨g2, 0, none⟩) os.length d2) := hr5.keeps (by omega) (by first | (go_simp; done) | assumption)
  have k5_12 : w5.cell? ⟨bba, ooa + b.toNat, none⟩ = some (.int .i64 xb) := hr5.keeps (by omega) (by first | (go_simp; done) | assumption)
  have f5_0 : w5.frozen? ⟨w.heap.size + 1 + 1, 0, none⟩ = false := hr5.free (by omega) (by omega) (by first | (go_simp; done) | assumption)
  have f5_1 : w5.frozen? ⟨w.heap.size + 1 + 1, 1, none⟩ = false := hr5.free (by omega) (by omega) (by first | (go_simp; done) | assumption)
  have f5_2 : w5.frozen? ⟨w1.heap.size, 0, none⟩ = false := hr5.free (by omega) (by omega) (by first | (go_simp; done) | assumption)
  have f5_3 : w5.frozen? ⟨w1.heap.size, 1, none⟩ = false := hr5.free (by omega) (by omega) (by first | (go_simp; done) | assumption)
  clear k4_0 k4_1 k4_2 k4_3 k4_4 k4_5 k4_6 k4_7 k4_8 k4_9 k4_10 k4_11 ccb f4_0 f4_1 f4_2 f4_3
  clear hw5
  go_still_tail 11, (by kernel_rfl)
  change wpList _ _ _ _ _ (World.drew _)
  go_wp2_with fail
  refine (l12Copy_n (rs.set dst.toNat xb) os rs.length os.length _ _ _ _ _ (by simp) rfl (by omega) (by omega) (by have o := (o15.put dst.toNat (.int .i64 xb)).rd; rw [List.set_set, I64_set] at o; exact o) (hO2.out.later (by (repeat (first | with_reducible exact Kp.refl _ _ | (with_reducible refine Kp.rng ?_ (by assumption) ?_) | (with_reducible refine Kp.below ?_ (by assumption)) | (with_reducible refine Kp.grown ?_ (by assumption) ?_) | (with_reducible refine Kp.alloc ?_ _) | (with_reducible refine Kp.drew ?_) | (with_reducible refine Kp.drewN ?_ _) | (with_reducible refine Kp.setCell ?_ _ ?_))) <;> (first | omega | (simp; done) | (simp; omega)))).rd (by intro h; cases h) (by intro h; cases h)).mono ?_
  rintro e w6' ⟨g5, d5, g6, d6, rfl, ho5, ho6, hne5, hb6'⟩
  have z6' := hb6'.size
  (try simp at z6')
  have e6_0 := bel_keeps hb6' (b := w.heap.size + 1 + 1) (o := 0) (v := .slice none 0 0) (by first | (go_simp; done) | assumption)
  have e7_0 := bel_free hb6' (b := w.heap.size + 1 + 1) (o := 0) (by first | omega | (simp; done) | (simp; omega)) (by first | (go_simp; done) | assumption)
  have e6_1 := bel_keeps hb6' (b := w.heap.size + 1 + 1) (o := 1) (v := .slice none 0 0) (by first | (go_simp; done) | assumption)
  have e7_1 := bel_free hb6' (b := w.heap.size + 1 + 1) (o := 1) (by first | omega | (simp; done) | (simp; omega)) (by first | (go_simp; done) | assumption)
  have l5 := ho5.ge
  have l6 := ho6.ge
  (try simp at l5)
  (try simp at l6)
  have HO5 := Lib.hid ho5
  have HO6 := Lib.hid ho6
  clear ho5 ho6
  go_wp2_with fail
  refine bodyPost_ret (v := .agg #[.slice (some ⟨g5, 0, none⟩) (rs.length) d5, .slice (some ⟨g6, 0, none⟩) (os.length) d6]) (by simp [results, Try.results54, go_sem, e6_0, e6_1, e7_0, e7_1]) rfl ⟨g5, d5, g6, d6, by simp, ?_, ?_, hne5, ?_⟩
  · simpa using (HO5.out.lo (lo' := w.heap.size) (by first | omega | (simp; done) | (simp; omega))).later (by (repeat (first | with_reducible exact Kp.refl _ _ | (with_reducible refine Kp.rng ?_ (by assumption) ?_) | (with_reducible refine Kp.below ?_ (by assumption)) | (with_reducible refine Kp.grown ?_ (by assumption) ?_) | (with_reducible refine Kp.alloc ?_ _) | (with_reducible refine Kp.drew ?_) | (with_reducible refine Kp.drewN ?_ _) | (with_reducible refine Kp.setCell ?_ _ ?_))) <;> (first | omega | (simp; done) | (simp; omega)))
  · simpa using (HO6.out.lo (lo' := w.heap.size) (by first | omega | (simp; done) | (simp; omega))).later (by (repeat (first | with_reducible exact Kp.refl _ _ | (with_reducible refine Kp.rng ?_ (by assumption) ?_) | (with_reducible refine Kp.below ?_ (by assumption)) | (with_reducible refine Kp.grown ?_ (by assumption) ?_) | (with_reducible refine Kp.alloc ?_ _) | (with_reducible refine Kp.drew ?_) | (with_reducible refine Kp.drewN ?_ _) | (with_reducible refine Kp.setCell ?_ _ ?_))) <;> (first | omega | (simp; done) | (simp; omega)))
  · exact (by (repeat (first | with_reducible exact Below.refl _ _ | (with_reducible refine bel_next ?_ ?_ (by assumption)) | (with_reducible refine Below.alloc ?_ ?_ _) | (with_reducible refine Below.drew ?_) | (with_reducible refine below_drewN ?_ _) | (with_reducible refine Below.setCell ?_ ?_ _))) <;> (first | omega | (simp; done) | (simp; omega)))
set_option maxRecDepth 20000 in
set_option maxHeartbeats 8000000 in
theorem sStep_def (rs os : List Int) (a1 a2 : Option Addr) (c1 c2 : Nat) (op dst a b c n : Int) (rr : List Rw) (ai : Option Addr) (ci : Nat) (w : World) (hm1 : rs.length ≤ 1048576) (hm2 : os.length ≤ 1048576) (hr1 : RdC w a1 (I64 rs)) (hr2 : RdC w a2 (I64 os)) (hmr : rr.length ≤ 1048576) (hml : rowsLe rr) (hri : RdR w ai rr) (h1 : stateOk rs os = true) (h2 : plainB ⟨op, dst, a, b, c, n⟩ = true) (h3 : inputsOk (rr.map Rw.xs) = true) (p1 : ¬ op = 1) (p2 : ¬ op = 2) (p10 : ¬ op = 10) (p11 : ¬ op = 11) :
    Calls Try.prog 54 #[.agg #[.slice a1 rs.length c1, .slice a2 os.length c2], stV ⟨op, dst, a, b, c, n⟩, .slice ai rr.length ci] w fun e w' => ∃ g1 d1 g2 d2, e = .returned (.agg #[.slice (some ⟨g1, 0, none⟩) (stepRegs rs os ⟨op, dst, a, b, c, n⟩ (rr.map Rw.xs)).length d1, .slice (some ⟨g2, 0, none⟩) (stepOuts rs os ⟨op, dst, a, b, c, n⟩ (rr.map Rw.xs)).length d2]) ∧
      Own w' w.heap.size 3 1 (some ⟨g1, 0, none⟩) (stepRegs rs os ⟨op, dst, a, b, c, n⟩ (rr.map Rw.xs)).length d1 (I64 (stepRegs rs os ⟨op, dst, a, b, c, n⟩ (rr.map Rw.xs))) ∧ Own w' w.heap.size 3 1 (some ⟨g2, 0, none⟩) (stepOuts rs os ⟨op, dst, a, b, c, n⟩ (rr.map Rw.xs)).length d2 (I64 (stepOuts rs os ⟨op, dst, a, b, c, n⟩ (rr.map Rw.xs))) ∧ g1 ≠ g2 ∧ Below w.heap.size w w' := by
  have hM1 : rs.length ≤ maxLen := by unfold maxLen; omega
  have hM2 : os.length ≤ maxLen := by unfold maxLen; omega
  have hMr : rr.length ≤ maxLen := by unfold maxLen; omega
  have HN1 := Lib.hid (rd_none hr1)
  have HN2 := Lib.hid (rd_none hr2)
  have HR1 := Lib.hid hr1
  have HR2 := Lib.hid hr2
  have HRI := Lib.hid hri
  clear hr1 hr2 hri
  have hB : stepB ⟨op, dst, a, b, c, n⟩ rs os (rr.map Rw.xs) = true := by simp [stepB, h1, h2, h3]
  have hst : stOk ⟨op, dst, a, b, c, n⟩ = true := by have h := h2; simp [plainB] at h; first | exact h | exact h.1
  have hop : op ≤ 11 := by have h := h2; simp [plainB] at h; exact h.2
  have hh := stok_regs hst
  simp only at hh
  obtain ⟨o1, o13, r0, r1, r2, r3, r4, r5, r6, r7⟩ := hh
  have h8 := stateOk_len h1
  have h5 := inputs_len h3
  obtain ⟨v, hv⟩ : ∃ v, v = stepVal ⟨op, dst, a, b, c, n⟩ rs (rr.map Rw.xs) := ⟨_, rfl⟩
  have e1 : (stepRegs rs os ⟨op, dst, a, b, c, n⟩ (rr.map Rw.xs)) = rs.set dst.toNat v := by simp [stepRegs, hB, hv, p11]
  have e2 : (stepOuts rs os ⟨op, dst, a, b, c, n⟩ (rr.map Rw.xs)) = os := by simp [stepOuts, p11]
  have hv2 : v = operateF op (rgd rs a) (rgd rs b) := by rw [hv]; simp [stepVal, p1, p2, p10, p11]
  clear hv
  rw [e1, e2]
  clear hB e1 e2
  have H8 := Lib.hid h8
  have H5 := Lib.hid h5
  have HST := Lib.hid h1
  have HS := Lib.hid hst
  have HIN := Lib.hid h3
  have q1 : (op == 1) = false := by simp [p1]
  have q2 : (op == 2) = false := by simp [p2]
  have q10 : (op == 10) = false := by simp [p10]
  have q11 : (op == 11) = false := by simp [p11]
  clear p1 p2 p10 p11
  clear h1 h2 h3 hst h8 h5
  have hta : a.toNat < rs.length := by have := H8.out; omega
  have hxa : rgd rs a = rs[a.toNat] := rgd_at hta
  obtain ⟨xa, hqa⟩ : ∃ x, x = rs[a.toNat] := ⟨_, rfl⟩
  rw [← hqa] at hxa
  have hia : a < (rs.length : Int) := by have := H8.out; omega
  have htb : b.toNat < rs.length := by have := H8.out; omega
  have hxb : rgd rs b = rs[b.toNat] := rgd_at htb
  obtain ⟨xb, hqb⟩ : ∃ x, x = rs[b.toNat] := ⟨_, rfl⟩
  rw [← hqb] at hxb
  have hib : b < (rs.length : Int) := by have := H8.out; omega
  rw [hxa, hxb] at hv2
  clear hxa hxb
  have hdt : dst.toNat < rs.length := by have := H8.out; omega
  have hd8 : dst < (rs.length : Int) := by have := H8.out; omega
  have HQa := Lib.hid hqa
  clear hqa
  have HQb := Lib.hid hqb
  clear hqb
  have HV2 := Lib.hid hv2
  clear hv2
  unfold stV
  go_enter Try.func54, Try.ntmps54
  go_wp2_with fail
  obtain ⟨w0, hw0⟩ : ∃ W, W = ((w.alloc (.cells #[.slice a1 rs.length c1, .slice a2 os.length c2] 57)).alloc (.cells #[.int .i64 op, .int .i64 dst, .int .i64 a, .int .i64 b, .int .i64 c, .int .i64 n] 38)).alloc (.cells #[.slice none 0 0, .slice none 0 0] 57) := ⟨_, rfl⟩
  rw [← hw0]
  have hb0 : Below w.heap.size w w0 := by rw [hw0]; exact (by (repeat (first | with_reducible exact Below.refl _ _ | (with_reducible refine bel_next ?_ ?_ (by assumption)) | (with_reducible refine Below.alloc ?_ ?_ _) | (with_reducible refine Below.drew ?_) | (with_reducible refine below_drewN ?_ _) | (with_reducible refine Below.setCell ?_ ?_ _))) <;> (first | omega | (simp; done) | (simp; omega)))
  have z0 : w.heap.size + 1 + 1 < w0.heap.size := by rw [hw0]; simp
  have k0_0 : w0.cell? ⟨w.heap.size, 0, none⟩ = some (.slice a1 rs.length c1) := by rw [hw0]; go_simp
  have k0_1 : w0.cell? ⟨w.heap.size, 1, none⟩ = some (.slice a2 os.length c2) := by rw [hw0]; go_simp
  have k0_2 : w0.cell? ⟨w.heap.size + 1, 0, none⟩ = some (.int .i64 op) := by rw [hw0]; go_simp
  have k0_3 : w0.cell? ⟨w.heap.size + 1, 1, none⟩ = some (.int .i64 dst) := by rw [hw0]; go_simp
  have k0_4 : w0.cell? ⟨w.heap.size + 1, 2, none⟩ = some (.int .i64 a) := by rw [hw0]; go_simp
  have k0_5 : w0.cell? ⟨w.heap.size + 1, 3, none⟩ = some (.int .i64 b) := by rw [hw0]; go_simp
  have k0_6 : w0.cell? ⟨w.heap.size + 1, 4, none⟩ = some (.int .i64 c) := by rw [hw0]; go_simp
  have k0_7 : w0.cell? ⟨w.heap.size + 1, 5, none⟩ = some (.int .i64 n) := by rw [hw0]; go_simp
  have k0_8 : w0.cell? ⟨w.heap.size + 1 + 1, 0, none⟩ = some (.slice none 0 0) := by rw [hw0]; go_simp
  have k0_9 : w0.cell? ⟨w.heap.size + 1 + 1, 1, none⟩ = some (.slice none 0 0) := by rw [hw0]; go_simp
  have f0_0 : w0.frozen? ⟨w.heap.size + 1 + 1, 0, none⟩ = false := by rw [hw0]; go_simp
  have f0_1 : w0.frozen? ⟨w.heap.size + 1 + 1, 1, none⟩ = false := by rw [hw0]; go_simp
  clear hw0
  refine (l12Copy_any rs os a1 a2 c1 c2 _ (by omega) (by omega) (HR1.out.below (by (repeat (first | with_reducible exact Below.refl _ _ | (with_reducible refine bel_next ?_ ?_ (by assumption)) | (with_reducible refine Below.alloc ?_ ?_ _) | (with_reducible refine Below.drew ?_) | (with_reducible refine below_drewN ?_ _) | (with_reducible refine Below.setCell ?_ ?_ _))) <;> (first | omega | (simp; done) | (simp; omega)))) (HR2.out.below (by (repeat (first | with_reducible exact Below.refl _ _ | (with_reducible refine bel_next ?_ ?_ (by assumption)) | (with_reducible refine Below.alloc ?_ ?_ _) | (with_reducible refine Below.drew ?_) | (with_reducible refine below_drewN ?_ _) | (with_reducible refine Below.setCell ?_ ?_ _))) <;> (first | omega | (simp; done) | (simp; omega)))) HN1.out HN2.out).mono ?_
  rintro e w1 ⟨g1, d1, g2, d2, rfl, ho1, ho2, hne, hb1⟩
  have z1 := hb1.size
  (try simp at z1)
  have y1_0 : w.heap.size < w1.heap.size := (by omega)
  have y1_1 : w.heap.size + 1 < w1.heap.size := (by omega)
  have y1_2 : w.heap.size + 1 + 1 < w1.heap.size := (by omega)
  have k1_0 := bel_keeps hb1 (b := w.heap.size) (o := 0) (v := .slice a1 rs.length c1) (by first | (go_simp; done) | assumption)
  have k1_1 := bel_keeps hb1 (b := w.heap.size) (o := 1) (v := .slice a2 os.length c2) (by first | (go_simp; done) | assumption)
  have k1_2 := bel_keeps hb1 (b := w.heap.size + 1) (o := 0) (v := .int .i64 op) (by first | (go_simp; done) | assumption)
  have k1_3 := bel_keeps hb1 (b := w.heap.size + 1) (o := 1) (v := .int .i64 dst) (by first | (go_simp; done) | assumption)
  have k1_4 := bel_keeps hb1 (b := w.heap.size + 1) (o := 2) (v := .int .i64 a) (by first | (go_simp; done) | assumption)
  have k1_5 := bel_keeps hb1 (b := w.heap.size + 1) (o := 3) (v := .int .i64 b) (by first | (go_simp; done) | assumption)
  have k1_6 := bel_keeps hb1 (b := w.heap.size + 1) (o := 4) (v := .int .i64 c) (by first | (go_simp; done) | assumption)
  have k1_7 := bel_keeps hb1 (b := w.heap.size + 1) (o := 5) (v := .int .i64 n) (by first | (go_simp; done) | assumption)
  have k1_8 := bel_keeps hb1 (b := w.heap.size + 1 + 1) (o := 0) (v := .slice none 0 0) (by first | (go_simp; done) | assumption)
  have k1_9 := bel_keeps hb1 (b := w.heap.size + 1 + 1) (o := 1) (v := .slice none 0 0) (by first | (go_simp; done) | assumption)
  have f1_0 := bel_free hb1 (b := w.heap.size + 1 + 1) (o := 0) (by first | omega | (simp; done) | (simp; omega)) (by first | (go_simp; done) | assumption)
  have f1_1 := bel_free hb1 (b := w.heap.size + 1 + 1) (o := 1) (by first | omega | (simp; done) | (simp; omega)) (by first | (go_simp; done) | assumption)
  clear k0_0 k0_1 k0_2 k0_3 k0_4 k0_5 k0_6 k0_7 k0_8 k0_9 f0_0 f0_1
  have lg1 := ho1.ge
  have lg2 := ho2.ge
  have hO1 := Lib.hid ho1
  have hO2 := Lib.hid ho2
  clear ho1 ho2
  go_wp2_with fail
  obtain ⟨w2, hw2⟩ : ∃ W, W = w1.alloc (.cells #[.slice (some ⟨g1, 0, none⟩) rs.length d1, .slice (some ⟨g2, 0, none⟩) os.length d2] 57) := ⟨_, rfl⟩
  rw [← hw2]
  have hb2 : Below w1.heap.size w1 w2 := by rw [hw2]; exact (Below.refl _ _).alloc (Nat.le_refl _) _
  have x2 : w1.heap.size < w2.heap.size := by rw [hw2]; simp
  have z2 := hb2.size
  (try simp at z2)
  have y2_0 : w.heap.size < w2.heap.size := (by omega)
  have y2_1 : w.heap.size + 1 < w2.heap.size := (by omega)
  have y2_2 : w.heap.size + 1 + 1 < w2.heap.size := (by omega)
  have k2_0 := bel_keeps hb2 (b := w.heap.size) (o := 0) (v := .slice a1 rs.length c1) (by first | (go_simp; done) | assumption)
  have k2_1 := bel_keeps hb2 (b := w.heap.size) (o := 1) (v := .slice a2 os.length c2) (by first | (go_simp; done) | assumption)
  have k2_2 := bel_keeps hb2 (b := w.heap.size + 1) (o := 0) (v := .int .i64 op) (by first | (go_simp; done) | assumption)
  have k2_3 := bel_keeps hb2 (b := w.heap.size + 1) (o := 1) (v := .int .i64 dst) (by first | (go_simp; done) | assumption)
  have k2_4 := bel_keeps hb2 (b := w.heap.size + 1) (o := 2) (v := .int .i64 a) (by first | (go_simp; done) | assumption)
  have k2_5 := bel_keeps hb2 (b := w.heap.size + 1) (o := 3) (v := .int .i64 b) (by first | (go_simp; done) | assumption)
  have k2_6 := bel_keeps hb2 (b := w.heap.size + 1) (o := 4) (v := .int .i64 c) (by first | (go_simp; done) | assumption)
  have k2_7 := bel_keeps hb2 (b := w.heap.size + 1) (o := 5) (v := .int .i64 n) (by first | (go_simp; done) | assumption)
  have k2_8 := bel_keeps hb2 (b := w.heap.size + 1 + 1) (o := 0) (v := .slice none 0 0) (by first | (go_simp; done) | assumption)
  have k2_9 := bel_keeps hb2 (b := w.heap.size + 1 + 1) (o := 1) (v := .slice none 0 0) (by first | (go_simp; done) | assumption)
  have f2_0 := bel_free hb2 (b := w.heap.size + 1 + 1) (o := 0) (by first | omega | (simp; done) | (simp; omega)) (by first | (go_simp; done) | assumption)
  have f2_1 := bel_free hb2 (b := w.heap.size + 1 + 1) (o := 1) (by first | omega | (simp; done) | (simp; omega)) (by first | (go_simp; done) | assumption)
  clear k1_0 k1_1 k1_2 k1_3 k1_4 k1_5 k1_6 k1_7 k1_8 k1_9 f1_0 f1_1
  have kb2_0 : w2.cell? ⟨w1.heap.size, 0, none⟩ = some (.slice (some ⟨g1, 0, none⟩) rs.length d1) := by rw [hw2]; go_simp
  have kb2_1 : w2.cell? ⟨w1.heap.size, 1, none⟩ = some (.slice (some ⟨g2, 0, none⟩) os.length d2) := by rw [hw2]; go_simp
  have kf2_0 : w2.frozen? ⟨w1.heap.size, 0, none⟩ = false := by rw [hw2]; go_simp
  have kf2_1 : w2.frozen? ⟨w1.heap.size, 1, none⟩ = false := by rw [hw2]; go_simp
  clear hw2
  go_wp2_with fail
  refine (sStateOk_any rs os _ _ _ _ _ hM1 hM2 (HR1.out.below (by (repeat (first | with_reducible exact Below.refl _ _ | (with_reducible refine bel_next ?_ ?_ (by assumption)) | (with_reducible refine Below.alloc ?_ ?_ _) | (with_reducible refine Below.drew ?_) | (with_reducible refine below_drewN ?_ _) | (with_reducible refine Below.setCell ?_ ?_ _))) <;> (first | omega | (simp; done) | (simp; omega)))) (HR2.out.below (by (repeat (first | with_reducible exact Below.refl _ _ | (with_reducible refine bel_next ?_ ?_ (by assumption)) | (with_reducible refine Below.alloc ?_ ?_ _) | (with_reducible refine Below.drew ?_) | (with_reducible refine below_drewN ?_ _) | (with_reducible refine Below.setCell ?_ ?_ _))) <;> (first | omega | (simp; done) | (simp; omega))))).mono ?_
  rintro e w3 ⟨rfl, hb3⟩
  have z3 := hb3.size
  (try simp at z3)
  have y3_0 : w.heap.size < w3.heap.size := (by omega)
  have y3_1 : w.heap.size + 1 < w3.heap.size := (by omega)
  have y3_2 : w.heap.size + 1 + 1 < w3.heap.size := (by omega)
  have y3_3 : w1.heap.size < w3.heap.size := (by omega)
  have k3_0 := bel_keeps hb3 (b := w.heap.size) (o := 0) (v := .slice a1 rs.length c1) (by first | (go_simp; done) | assumption)
  have k3_1 := bel_keeps hb3 (b := w.heap.size) (o := 1) (v := .slice a2 os.length c2) (by first | (go_simp; done) | assumption)
  have k3_2 := bel_keeps hb3 (b := w.heap.size + 1) (o := 0) (v := .int .i64 op) (by first | (go_simp; done) | assumption)
  have k3_3 := bel_keeps hb3 (b := w.heap.size + 1) (o := 1) (v := .int .i64 dst) (by first | (go_simp; done) | assumption)
  have k3_4 := bel_keeps hb3 (b := w.heap.size + 1) (o := 2) (v := .int .i64 a) (by first | (go_simp; done) | assumption)
  have k3_5 := bel_keeps hb3 (b := w.heap.size + 1) (o := 3) (v := .int .i64 b) (by first | (go_simp; done) | assumption)
  have k3_6 := bel_keeps hb3 (b := w.heap.size + 1) (o := 4) (v := .int .i64 c) (by first | (go_simp; done) | assumption)
  have k3_7 := bel_keeps hb3 (b := w.heap.size + 1) (o := 5) (v := .int .i64 n) (by first | (go_simp; done) | assumption)
  have k3_8 := bel_keeps hb3 (b := w.heap.size + 1 + 1) (o := 0) (v := .slice none 0 0) (by first | (go_simp; done) | assumption)
  have k3_9 := bel_keeps hb3 (b := w.heap.size + 1 + 1) (o := 1) (v := .slice none 0 0) (by first | (go_simp; done) | assumption)
  have k3_10 := bel_keeps hb3 (b := w1.heap.size) (o := 0) (v := .slice (some ⟨g1, 0, none⟩) rs.length d1) (by first | (go_simp; done) | assumption)
  have k3_11 := bel_keeps hb3 (b := w1.heap.size) (o := 1) (v := .slice (some ⟨g2, 0, none⟩) os.length d2) (by first | (go_simp; done) | assumption)
  have f3_0 := bel_free hb3 (b := w.heap.size + 1 + 1) (o := 0) (by first | omega | (simp; done) | (simp; omega)) (by first | (go_simp; done) | assumption)
  have f3_1 := bel_free hb3 (b := w.heap.size + 1 + 1) (o := 1) (by first | omega | (simp; done) | (simp; omega)) (by first | (go_simp; done) | assumption)
  have f3_2 := bel_free hb3 (b := w1.heap.size) (o := 0) (by first | omega | (simp; done) | (simp; omega)) (by first | (go_simp; done) | assumption)
  have f3_3 := bel_free hb3 (b := w1.heap.size) (o := 1) (by first | omega | (simp; done) | (simp; omega)) (by first | (go_simp; done) | assumption)
  clear k2_0 k2_1 k2_2 k2_3 k2_4 k2_5 k2_6 k2_7 k2_8 k2_9 kb2_0 kb2_1 f2_0 f2_1 kf2_0 kf2_1
  rw [HST.out]
  go_wp2_with fail
  refine (sStmtOk_any ⟨op, dst, a, b, c, n⟩ _).mono ?_
  rintro e w4 ⟨rfl, hb4⟩
  have z4 := hb4.size
  (try simp at z4)
  have y4_0 : w.heap.size < w4.heap.size := (by omega)
  have y4_1 : w.heap.size + 1 < w4.heap.size := (by omega)
  have y4_2 : w.heap.size + 1 + 1 < w4.heap.size := (by omega)
  have y4_3 : w1.heap.size < w4.heap.size := (by omega)
  have k4_0 := bel_keeps hb4 (b := w.heap.size) (o := 0) (v := .slice a1 rs.length c1) (by first | (go_simp; done) | assumption)
  have k4_1 := bel_keeps hb4 (b := w.heap.size) (o := 1) (v := .slice a2 os.length c2) (by first | (go_simp; done) | assumption)
  have k4_2 := bel_keeps hb4 (b := w.heap.size + 1) (o := 0) (v := .int .i64 op) (by first | (go_simp; done) | assumption)
  have k4_3 := bel_keeps hb4 (b := w.heap.size + 1) (o := 1) (v := .int .i64 dst) (by first | (go_simp; done) | assumption)
  have k4_4 := bel_keeps hb4 (b := w.heap.size + 1) (o := 2) (v := .int .i64 a) (by first | (go_simp; done) | assumption)
  have k4_5 := bel_keeps hb4 (b := w.heap.size + 1) (o := 3) (v := .int .i64 b) (by first | (go_simp; done) | assumption)
  have k4_6 := bel_keeps hb4 (b := w.heap.size + 1) (o := 4) (v := .int .i64 c) (by first | (go_simp; done) | assumption)
  have k4_7 := bel_keeps hb4 (b := w.heap.size + 1) (o := 5) (v := .int .i64 n) (by first | (go_simp; done) | assumption)
  have k4_8 := bel_keeps hb4 (b := w.heap.size + 1 + 1) (o := 0) (v := .slice none 0 0) (by first | (go_simp; done) | assumption)
  have k4_9 := bel_keeps hb4 (b := w.heap.size + 1 + 1) (o := 1) (v := .slice none 0 0) (by first | (go_simp; done) | assumption)
  have k4_10 := bel_keeps hb4 (b := w1.heap.size) (o := 0) (v := .slice (some ⟨g1, 0, none⟩) rs.length d1) (by first | (go_simp; done) | assumption)
  have k4_11 := bel_keeps hb4 (b := w1.heap.size) (o := 1) (v := .slice (some ⟨g2, 0, none⟩) os.length d2) (by first | (go_simp; done) | assumption)
  have f4_0 := bel_free hb4 (b := w.heap.size + 1 + 1) (o := 0) (by first | omega | (simp; done) | (simp; omega)) (by first | (go_simp; done) | assumption)
  have f4_1 := bel_free hb4 (b := w.heap.size + 1 + 1) (o := 1) (by first | omega | (simp; done) | (simp; omega)) (by first | (go_simp; done) | assumption)
  have f4_2 := bel_free hb4 (b := w1.heap.size) (o := 0) (by first | omega | (simp; done) | (simp; omega)) (by first | (go_simp; done) | assumption)
  have f4_3 := bel_free hb4 (b := w1.heap.size) (o := 1) (by first | omega | (simp; done) | (simp; omega)) (by first | (go_simp; done) | assumption)
  clear k3_0 k3_1 k3_2 k3_3 k3_4 k3_5 k3_6 k3_7 k3_8 k3_9 k3_10 k3_11 f3_0 f3_1 f3_2 f3_3
  rw [HS.out]
  go_wp2_with fail
  refine (sInputsOk_any rr _ _ _ hMr hml (HRI.out.below (by (repeat (first | with_reducible exact Below.refl _ _ | (with_reducible refine bel_next ?_ ?_ (by assumption)) | (with_reducible refine Below.alloc ?_ ?_ _) | (with_reducible refine Below.drew ?_) | (with_reducible refine below_drewN ?_ _) | (with_reducible refine Below.setCell ?_ ?_ _))) <;> (first | omega | (simp; done) | (simp; omega))))).mono ?_
  rintro e _ ⟨rfl, rfl⟩
  rw [HIN.out]
  obtain ⟨bba, ooa, haaa, hcca⟩ := (show RdC w4 a1 (I64 rs) from HR1.out.below (by (repeat (first | with_reducible exact Below.refl _ _ | (with_reducible refine bel_next ?_ ?_ (by assumption)) | (with_reducible refine Below.alloc ?_ ?_ _) | (with_reducible refine Below.drew ?_) | (with_reducible refine below_drewN ?_ _) | (with_reducible refine Below.setCell ?_ ?_ _))) <;> (first | omega | (simp; done) | (simp; omega)))).at a.toNat (by have := H8.out; omega)
  have cca := hcca a.toNat (by have := H8.out; omega)
  rw [← HQa.out] at cca
  have lta := lt_of_cell cca
  subst haaa
  clear hcca
  obtain ⟨bbb, oob, haab, hccb⟩ := (show RdC w4 (some ⟨bba, ooa, none⟩) (I64 rs) from HR1.out.below (by (repeat (first | with_reducible exact Below.refl _ _ | (with_reducible refine bel_next ?_ ?_ (by assumption)) | (with_reducible refine Below.alloc ?_ ?_ _) | (with_reducible refine Below.drew ?_) | (with_reducible refine below_drewN ?_ _) | (with_reducible refine Below.setCell ?_ ?_ _))) <;> (first | omega | (simp; done) | (simp; omega)))).at b.toNat (by have := H8.out; omega)
  simp only [Option.some.injEq, Addr.mk.injEq, and_true] at haab
  obtain ⟨rfl, rfl⟩ := haab
  have ccb := hccb b.toNat (by have := H8.out; omega)
  rw [← HQb.out] at ccb
  clear hccb
  have hab : bba < w.heap.size := by rcases HR1.out with h | ⟨b, o, h, hc⟩ <;> first | (have hz : rs.length = 0 := (by simpa using congrArg List.length h); have := H8.out; omega) | (simp only [Option.some.injEq, Addr.mk.injEq, and_true] at h; obtain ⟨rfl, rfl⟩ := h; exact lt_of_cell (hc 0 (by have := H8.out; simp; omega)))
  obtain ⟨ca, fa⟩ := (show Own w4 _ _ _ _ _ _ _ from hO1.out.later (by (repeat (first | with_reducible exact Kp.refl _ _ | (with_reducible refine Kp.rng ?_ (by assumption) ?_) | (with_reducible refine Kp.below ?_ (by assumption)) | (with_reducible refine Kp.grown ?_ (by assumption) ?_) | (with_reducible refine Kp.alloc ?_ _) | (with_reducible refine Kp.drew ?_) | (with_reducible refine Kp.drewN ?_ _) | (with_reducible refine Kp.setCell ?_ _ ?_))) <;> (first | omega | (simp; done) | (simp; omega)))).get dst.toNat (by simp; exact hdt)
  generalize (I64 rs)[dst.toNat]'_ = u at ca
  have nq0 : w.heap.size ≠ g1 := (by omega)
  have np0 : g1 ≠ w.heap.size := (by omega)
  have nq1 : w.heap.size + 1 ≠ g1 := (by omega)
  have np1 : g1 ≠ w.heap.size + 1 := (by omega)
  have nq2 : w.heap.size + 1 + 1 ≠ g1 := (by omega)
  have np2 : g1 ≠ w.heap.size + 1 + 1 := (by omega)
  have nq3 : w1.heap.size ≠ g1 := (by omega)
  have np3 : g1 ≠ w1.heap.size := (by omega)
  have nq4 : bba ≠ g1 := (by omega)
  have np4 : g1 ≠ bba := (by omega)
  go_wp2_with fail
  go_region_held3 (fun w' => w'.cell? ⟨w.heap.size + 1, 0, none⟩ = some (.int .i64 op) ∧ w'.cell? ⟨w.heap.size + 1, 1, none⟩ = some (.int .i64 dst) ∧ w'.cell? ⟨w.heap.size + 1, 2, none⟩ = some (.int .i64 a) ∧ w'.cell? ⟨w.heap.size + 1, 3, none⟩ = some (.int .i64 b) ∧ w'.cell? ⟨w1.heap.size, 0, none⟩ = some (.slice (some ⟨g1, 0, none⟩) rs.length d1) ∧ w'.cell? ⟨w.heap.size, 0, none⟩ = some (.slice (some ⟨bba, ooa, none⟩) rs.length c1) ∧ w'.cell? ⟨bba, ooa + a.toNat, none⟩ = some (.int .i64 xa) ∧ w'.cell? ⟨bba, ooa + b.toNat, none⟩ = some (.int .i64 xb))
    (first | go_keep)
    (first | (go_at_call 98; refine (sOperate_any op xa xb _).mono ?_; rintro e _ ⟨rfl, rfl⟩; rw [← HV2.out]))
  go_wp2_with fail
  refine (l12Copy_n (rs.set dst.toNat v) os rs.length os.length _ _ _ _ _ (by simp) rfl (by omega) (by omega) (by rw [← I64_set]; exact (((show Own w4 _ _ _ _ _ _ _ from hO1.out.later (by (repeat (first | with_reducible exact Kp.refl _ _ | (with_reducible refine Kp.rng ?_ (by assumption) ?_) | (with_reducible refine Kp.below ?_ (by assumption)) | (with_reducible refine Kp.grown ?_ (by assumption) ?_) | (with_reducible refine Kp.alloc ?_ _) | (with_reducible refine Kp.drew ?_) | (with_reducible refine Kp.drewN ?_ _) | (with_reducible refine Kp.setCell ?_ _ ?_))) <;> (first | omega | (simp; done) | (simp; omega))))).put _ _).rd) (hO2.out.later (by (repeat (first | with_reducible exact Kp.refl _ _ | (with_reducible refine Kp.rng ?_ (by assumption) ?_) | (with_reducible refine Kp.below ?_ (by assumption)) | (with_reducible refine Kp.grown ?_ (by assumption) ?_) | (with_reducible refine Kp.alloc ?_ _) | (with_reducible refine Kp.drew ?_) | (with_reducible refine Kp.drewN ?_ _) | (with_reducible refine Kp.setCell ?_ _ ?_))) <;> (first | omega | (simp; done) | (simp; omega)))).rd (by intro h; cases h) (by intro h; cases h)).mono ?_
  rintro e w6' ⟨g5, d5, g6, d6, rfl, ho5, ho6, hne5, hb6'⟩
  have z6' := hb6'.size
  (try simp at z6')
  have e6_0 := bel_keeps hb6' (b := w.heap.size + 1 + 1) (o := 0) (v := .slice none 0 0) (by first | (go_simp; done) | assumption)
  have e7_0 := bel_free hb6' (b := w.heap.size + 1 + 1) (o := 0) (by first | omega | (simp; done) | (simp; omega)) (by first | (go_simp; done) | assumption)
  have e6_1 := bel_keeps hb6' (b := w.heap.size + 1 + 1) (o := 1) (v := .slice none 0 0) (by first | (go_simp; done) | assumption)
  have e7_1 := bel_free hb6' (b := w.heap.size + 1 + 1) (o := 1) (by first | omega | (simp; done) | (simp; omega)) (by first | (go_simp; done) | assumption)
  have l5 := ho5.ge
  have l6 := ho6.ge
  (try simp at l5)
  (try simp at l6)
  have HO5 := Lib.hid ho5
  have HO6 := Lib.hid ho6
  clear ho5 ho6
  go_wp2_with fail
  refine bodyPost_ret (v := .agg #[.slice (some ⟨g5, 0, none⟩) (rs.length) d5, .slice (some ⟨g6, 0, none⟩) (os.length) d6]) (by simp [results, Try.results54, go_sem, e6_0, e6_1, e7_0, e7_1]) rfl ⟨g5, d5, g6, d6, by simp, ?_, ?_, hne5, ?_⟩
  · simpa using (HO5.out.lo (lo' := w.heap.size) (by first | omega | (simp; done) | (simp; omega))).later (by (repeat (first | with_reducible exact Kp.refl _ _ | (with_reducible refine Kp.rng ?_ (by assumption) ?_) | (with_reducible refine Kp.below ?_ (by assumption)) | (with_reducible refine Kp.grown ?_ (by assumption) ?_) | (with_reducible refine Kp.alloc ?_ _) | (with_reducible refine Kp.drew ?_) | (with_reducible refine Kp.drewN ?_ _) | (with_reducible refine Kp.setCell ?_ _ ?_))) <;> (first | omega | (simp; done) | (simp; omega)))
  · simpa using (HO6.out.lo (lo' := w.heap.size) (by first | omega | (simp; done) | (simp; omega))).later (by (repeat (first | with_reducible exact Kp.refl _ _ | (with_reducible refine Kp.rng ?_ (by assumption) ?_) | (with_reducible refine Kp.below ?_ (by assumption)) | (with_reducible refine Kp.grown ?_ (by assumption) ?_) | (with_reducible refine Kp.alloc ?_ _) | (with_reducible refine Kp.drew ?_) | (with_reducible refine Kp.drewN ?_ _) | (with_reducible refine Kp.setCell ?_ _ ?_))) <;> (first | omega | (simp; done) | (simp; omega)))
  · exact (by (repeat (first | with_reducible exact Below.refl _ _ | (with_reducible refine bel_next ?_ ?_ (by assumption)) | (with_reducible refine Below.alloc ?_ ?_ _) | (with_reducible refine Below.drew ?_) | (with_reducible refine below_drewN ?_ _) | (with_reducible refine Below.setCell ?_ ?_ _))) <;> (first | omega | (simp; done) | (simp; omega)))
end Go.Proofs.Ytfeffofoofmgcaa

/- StepState: iout, idef. -/
import Derived.Test.YtfeffofoofmgcaaStepS
import Derived.StillTailTactics
import Derived.Deep.RegionLaw
namespace Go.Proofs.Ytfeffofoofmgcaa
open Go.RowKit
set_option linter.unusedVariables false
set_option linter.unusedSimpArgs false

set_option maxRecDepth 20000 in
set_option maxHeartbeats 8000000 in
theorem iStep_out (rs os : List Int) (a1 a2 : Option Addr) (c1 c2 : Nat) (dst a b c n : Int) (rr : List Rw) (ai : Option Addr) (ci : Nat) (w : World) (hm1 : rs.length ≤ 1048576) (hm2 : os.length ≤ 1048576) (hr1 : RdC w a1 (I64 rs)) (hr2 : RdC w a2 (I64 os)) (hmr : rr.length ≤ 1048576) (hml : rowsLe rr) (hri : RdR w ai rr) (h1 : stateOk rs os = true) (h2 : plainB ⟨11, dst, a, b, c, n⟩ = true) (h3 : inputsOk (rr.map Rw.xs) = true) :
    Calls Try.prog 57 #[.agg #[.slice a1 rs.length c1, .slice a2 os.length c2], stV ⟨11, dst, a, b, c, n⟩, .slice ai rr.length ci] w fun e w' => ∃ g1 d1 g2 d2, e = .returned (.agg #[.slice (some ⟨g1, 0, none⟩) (stepRegs rs os ⟨11, dst, a, b, c, n⟩ (rr.map Rw.xs)).length d1, .slice (some ⟨g2, 0, none⟩) (stepOuts rs os ⟨11, dst, a, b, c, n⟩ (rr.map Rw.xs)).length d2]) ∧
      Own w' w.heap.size 3 1 (some ⟨g1, 0, none⟩) (stepRegs rs os ⟨11, dst, a, b, c, n⟩ (rr.map Rw.xs)).length d1 (I64 (stepRegs rs os ⟨11, dst, a, b, c, n⟩ (rr.map Rw.xs))) ∧ Own w' w.heap.size 3 1 (some ⟨g2, 0, none⟩) (stepOuts rs os ⟨11, dst, a, b, c, n⟩ (rr.map Rw.xs)).length d2 (I64 (stepOuts rs os ⟨11, dst, a, b, c, n⟩ (rr.map Rw.xs))) ∧ g1 < g2 ∧ Below w.heap.size w w' := by
  have hM1 : rs.length ≤ maxLen := by unfold maxLen; omega
  have hM2 : os.length ≤ maxLen := by unfold maxLen; omega
  have hMr : rr.length ≤ maxLen := by unfold maxLen; omega
  have HN1 := Lib.hid (rd_none hr1)
  have HN2 := Lib.hid (rd_none hr2)
  have HR1 := Lib.hid hr1
  have HR2 := Lib.hid hr2
  have HRI := Lib.hid hri
  clear hr1 hr2 hri
  have hB : stepB ⟨11, dst, a, b, c, n⟩ rs os (rr.map Rw.xs) = true := by simp [stepB, h1, h2, h3]
  have hst : stOk ⟨11, dst, a, b, c, n⟩ = true := by have h := h2; simp [plainB] at h; first | exact h | exact h.1
  
  have hh := stok_regs hst
  simp only at hh
  obtain ⟨o1, o13, r0, r1, r2, r3, r4, r5, r6, r7⟩ := hh
  have h8 := stateOk_len h1
  have h5 := inputs_len h3
  have e1 : (stepRegs rs os ⟨11, dst, a, b, c, n⟩ (rr.map Rw.xs)) = rs := by simp [stepRegs]
  have e2 : (stepOuts rs os ⟨11, dst, a, b, c, n⟩ (rr.map Rw.xs)) = os ++ [rgd rs a] := by simp [stepOuts, hB]
  rw [e1, e2]
  clear hB e1 e2
  have H8 := Lib.hid h8
  have H5 := Lib.hid h5
  have HST := Lib.hid h1
  have HP := Lib.hid h2
  have HIN := Lib.hid h3
  clear h1 h2 h3 hst h8 h5
  have hta : a.toNat < rs.length := by have := H8.out; omega
  have hxa : rgd rs a = rs[a.toNat] := rgd_at hta
  obtain ⟨xa, hqa⟩ : ∃ x, x = rs[a.toNat] := ⟨_, rfl⟩
  rw [← hqa] at hxa
  have hia : a < (rs.length : Int) := by have := H8.out; omega
  rw [hxa]
  clear hxa
  have HQa := Lib.hid hqa
  clear hqa
  unfold stV
  go_enter Try.func57, Try.ntmps57
  go_wp2_with fail
  obtain ⟨w0, hw0⟩ : ∃ W, W = ((w.alloc (.cells #[.slice a1 rs.length c1, .slice a2 os.length c2] 57)).alloc (.cells #[.int .i64 11, .int .i64 dst, .int .i64 a, .int .i64 b, .int .i64 c, .int .i64 n] 38)).alloc (.cells #[.slice none 0 0, .slice none 0 0] 57) := ⟨_, rfl⟩
  rw [← hw0]
  have hb0 : Below w.heap.size w w0 := by rw [hw0]; exact (by (repeat (first | with_reducible exact Below.refl _ _ | (with_reducible refine bel_next ?_ ?_ (by assumption)) | (with_reducible refine Below.alloc ?_ ?_ _) | (with_reducible refine Below.drew ?_) | (with_reducible refine below_drewN ?_ _) | (with_reducible refine Below.setCell ?_ ?_ _))) <;> (first | omega | (simp; done) | (simp; omega)))
  have z0 : w.heap.size + 1 + 1 < w0.heap.size := by rw [hw0]; simp
  have k0_0 : w0.cell? ⟨w.heap.size, 0, none⟩ = some (.slice a1 rs.length c1) := by rw [hw0]; go_simp
  have k0_1 : w0.cell? ⟨w.heap.size, 1, none⟩ = some (.slice a2 os.length c2) := by rw [hw0]; go_simp
  have k0_2 : w0.cell? ⟨w.heap.size + 1, 0, none⟩ = some (.int .i64 11) := by rw [hw0]; go_simp
  have k0_3 : w0.cell? ⟨w.heap.size + 1, 1, none⟩ = some (.int .i64 dst) := by rw [hw0]; go_simp
  have k0_4 : w0.cell? ⟨w.heap.size + 1, 2, none⟩ = some (.int .i64 a) := by rw [hw0]; go_simp
  have k0_5 : w0.cell? ⟨w.heap.size + 1, 3, none⟩ = some (.int .i64 b) := by rw [hw0]; go_simp
  have k0_6 : w0.cell? ⟨w.heap.size + 1, 4, none⟩ = some (.int .i64 c) := by rw [hw0]; go_simp
  have k0_7 : w0.cell? ⟨w.heap.size + 1, 5, none⟩ = some (.int .i64 n) := by rw [hw0]; go_simp
  have k0_8 : w0.cell? ⟨w.heap.size + 1 + 1, 0, none⟩ = some (.slice none 0 0) := by rw [hw0]; go_simp
  have k0_9 : w0.cell? ⟨w.heap.size + 1 + 1, 1, none⟩ = some (.slice none 0 0) := by rw [hw0]; go_simp
  have f0_0 : w0.frozen? ⟨w.heap.size + 1 + 1, 0, none⟩ = false := by rw [hw0]; go_simp
  have f0_1 : w0.frozen? ⟨w.heap.size + 1 + 1, 1, none⟩ = false := by rw [hw0]; go_simp
  clear hw0
  go_wp2_with fail
  apply wp_share5 (F := fun W bx1 g11 d11 g21 d21 => Below w0.heap.size w0 W ∧ W.cell? ⟨bx1, 0, none⟩ = some (.slice (some ⟨g11, 0, none⟩) rs.length d11) ∧ W.cell? ⟨bx1, 1, none⟩ = some (.slice (some ⟨g21, 0, none⟩) os.length d21) ∧ w0.heap.size ≤ bx1 ∧ bx1 < W.heap.size ∧ W.frozen? ⟨bx1, 0, none⟩ = false ∧ W.frozen? ⟨bx1, 1, none⟩ = false ∧ Own W w0.heap.size 3 1 (some ⟨g11, 0, none⟩) rs.length d11 (I64 rs) ∧ Own W w0.heap.size 3 1 (some ⟨g21, 0, none⟩) os.length d21 (I64 os) ∧ g11 < g21 ∧ bx1 ≠ g11 ∧ bx1 ≠ g21 ∧ True)
  case h1 =>
    have a0_1 : w0.heap.size ≠ 0 ∨ True := .inr trivial
    have n1_52 : w.heap.size ≠ w0.heap.size := (by omega)
    have n1_52a : w0.heap.size ≠ w.heap.size := (by omega)
    have n1_54 : w.heap.size + 1 ≠ w0.heap.size := (by omega)
    have n1_54a : w0.heap.size ≠ w.heap.size + 1 := (by omega)
    have n1_56 : w.heap.size + 1 + 1 ≠ w0.heap.size := (by omega)
    have n1_56a : w0.heap.size ≠ w.heap.size + 1 + 1 := (by omega)
    go_region_held3 (fun w' => w'.cell? ⟨w.heap.size, 0, none⟩ = some (.slice a1 rs.length c1) ∧ w'.cell? ⟨w.heap.size, 1, none⟩ = some (.slice a2 os.length c2))
      (first | go_keep)
      (first | (go_at_call 90; refine (ints_any rs a1 c1 _ (by omega) (HR1.out.below (by (repeat (first | with_reducible exact Below.refl _ _ | (with_reducible refine bel_next ?_ ?_ (by assumption)) | (with_reducible refine Below.alloc ?_ ?_ _) | (with_reducible refine Below.drew ?_) | (with_reducible refine below_drewN ?_ _) | (with_reducible refine Below.setCell ?_ ?_ _))) <;> (first | omega | (simp; done) | (simp; omega))))).mono ?_; rintro e v1 ⟨g11, d11, rfl, ho1, _, _, hv1⟩; have zv1 := hv1.size; (try simp at zv1); have ge1 := ho1.ge; (try simp at ge1); have yv1_0 : w.heap.size < v1.heap.size := (by omega); have nv1_0 : w.heap.size ≠ v1.heap.size := (by omega); have mv1_0 : v1.heap.size ≠ w.heap.size := (by omega); have kv1_0 := bel_keeps hv1 (b := w.heap.size) (o := 0) (v := .slice a1 rs.length c1) (by first | (go_simp; done) | assumption); have kv1_1 := bel_keeps hv1 (b := w.heap.size) (o := 1) (v := .slice a2 os.length c2) (by first | (go_simp; done) | assumption); (try have yc1_0 : w0.heap.size < v1.heap.size := (by omega)); (try have bc1_00 := bel_keeps hv1 (b := w0.heap.size) (o := 0) (v := .slice none 0 0) (by first | (go_simp; done) | assumption)); (try have qc1_00 := bel_free hv1 (b := w0.heap.size) (o := 0) (by first | omega | (simp; done) | (simp; omega)) (by first | (go_simp; done) | assumption)); (try have bc1_01 := bel_keeps hv1 (b := w0.heap.size) (o := 1) (v := .slice none 0 0) (by first | (go_simp; done) | assumption)); (try have qc1_01 := bel_free hv1 (b := w0.heap.size) (o := 1) (by first | omega | (simp; done) | (simp; omega)) (by first | (go_simp; done) | assumption))) | (go_at_call 90; refine (ints_any os a2 c2 _ (by omega) (HR2.out.below (by (repeat (first | with_reducible exact Below.refl _ _ | (with_reducible refine bel_next ?_ ?_ (by assumption)) | (with_reducible refine Below.alloc ?_ ?_ _) | (with_reducible refine Below.drew ?_) | (with_reducible refine below_drewN ?_ _) | (with_reducible refine Below.setCell ?_ ?_ _))) <;> (first | omega | (simp; done) | (simp; omega))))).mono ?_; rintro e v2 ⟨g21, d21, rfl, ho2, _, _, hv2⟩; have zv2 := hv2.size; (try simp at zv2); have ge2 := ho2.ge; (try simp at ge2); have yv2_0 : w.heap.size < v2.heap.size := (by omega); have nv2_0 : w.heap.size ≠ v2.heap.size := (by omega); have mv2_0 : v2.heap.size ≠ w.heap.size := (by omega); have kv2_0 := bel_keeps hv2 (b := w.heap.size) (o := 0) (v := .slice a1 rs.length c1) (by first | (go_simp; done) | assumption); have kv2_1 := bel_keeps hv2 (b := w.heap.size) (o := 1) (v := .slice a2 os.length c2) (by first | (go_simp; done) | assumption); (try have yc2_0 : w0.heap.size < v2.heap.size := (by omega)); (try have bc2_00 := bel_keeps hv2 (b := w0.heap.size) (o := 0) (v := .slice none 0 0) (by first | (go_simp; done) | assumption)); (try have qc2_00 := bel_free hv2 (b := w0.heap.size) (o := 0) (by first | omega | (simp; done) | (simp; omega)) (by first | (go_simp; done) | assumption)); (try have bc2_01 := bel_keeps hv2 (b := w0.heap.size) (o := 1) (v := .slice none 0 0) (by first | (go_simp; done) | assumption)); (try have qc2_01 := bel_free hv2 (b := w0.heap.size) (o := 1) (by first | omega | (simp; done) | (simp; omega)) (by first | (go_simp; done) | assumption)); (try have yc2_1 : v1.heap.size < v2.heap.size := (by omega)); (try have bc2_10 := bel_keeps hv2 (b := v1.heap.size) (o := 0) (v := .slice none 0 0) (by first | (go_simp; done) | assumption)); (try have qc2_10 := bel_free hv2 (b := v1.heap.size) (o := 0) (by first | omega | (simp; done) | (simp; omega)) (by first | (go_simp; done) | assumption)); (try have bc2_11 := bel_keeps hv2 (b := v1.heap.size) (o := 1) (v := .slice none 0 0) (by first | (go_simp; done) | assumption)); (try have qc2_11 := bel_free hv2 (b := v1.heap.size) (o := 1) (by first | omega | (simp; done) | (simp; omega)) (by first | (go_simp; done) | assumption))))
    ·
      refine ⟨rfl, v2.heap.size, g11, d11, g21, d21, ⟨(by (repeat (first | with_reducible exact Below.refl _ _ | (with_reducible refine bel_next ?_ ?_ (by assumption)) | (with_reducible refine Below.alloc ?_ ?_ _) | (with_reducible refine Below.drew ?_) | (with_reducible refine below_drewN ?_ _) | (with_reducible refine Below.setCell ?_ ?_ _))) <;> (first | omega | (simp; done) | (simp; omega))), (by first | (go_simp; done) | assumption), (by first | (go_simp; done) | assumption), (by first | omega | (simp; done) | (simp; omega)), (by first | omega | (simp [World.setCell]; done) | (simp [World.setCell]; omega)), (by first | (go_simp; done) | assumption), (by first | (go_simp; done) | assumption), (ho1.lo (by first | omega | (simp; done) | (simp; omega))).later (by (repeat (first | with_reducible exact Kp.refl _ _ | (with_reducible refine Kp.rng ?_ (by assumption) ?_) | (with_reducible refine Kp.below ?_ (by assumption)) | (with_reducible refine Kp.grown ?_ (by assumption) ?_) | (with_reducible refine Kp.alloc ?_ _) | (with_reducible refine Kp.drew ?_) | (with_reducible refine Kp.drewN ?_ _) | (with_reducible refine Kp.setCell ?_ _ ?_))) <;> (first | omega | (simp; done) | (simp; omega))), (ho2.lo (by first | omega | (simp; done) | (simp; omega))).later (by (repeat (first | with_reducible exact Kp.refl _ _ | (with_reducible refine Kp.rng ?_ (by assumption) ?_) | (with_reducible refine Kp.below ?_ (by assumption)) | (with_reducible refine Kp.grown ?_ (by assumption) ?_) | (with_reducible refine Kp.alloc ?_ _) | (with_reducible refine Kp.drew ?_) | (with_reducible refine Kp.drewN ?_ _) | (with_reducible refine Kp.setCell ?_ _ ?_))) <;> (first | omega | (simp; done) | (simp; omega))), (by first | omega | (simp; done) | (simp; omega)), (by first | omega | (simp; done) | (simp; omega)), (by first | omega | (simp; done) | (simp; omega)), trivial⟩, ?_⟩
      generalize (v2.alloc (.cells #[.slice (some ⟨g11, 0, none⟩) rs.length d11, .slice (some ⟨g21, 0, none⟩) os.length d21] 57)) = W
      generalize v2.heap.size = bx
      rfl
    ·
      refine ⟨rfl, v1.heap.size, g11, d11, g21, d21, ⟨(by (repeat (first | with_reducible exact Below.refl _ _ | (with_reducible refine bel_next ?_ ?_ (by assumption)) | (with_reducible refine Below.alloc ?_ ?_ _) | (with_reducible refine Below.drew ?_) | (with_reducible refine below_drewN ?_ _) | (with_reducible refine Below.setCell ?_ ?_ _))) <;> (first | omega | (simp; done) | (simp; omega))), (by first | (go_simp; done) | assumption), (by first | (go_simp; done) | assumption), (by first | omega | (simp; done) | (simp; omega)), (by first | omega | (simp [World.setCell]; done) | (simp [World.setCell]; omega)), (by first | (go_simp; done) | assumption), (by first | (go_simp; done) | assumption), (ho1.lo (by first | omega | (simp; done) | (simp; omega))).later (by (repeat (first | with_reducible exact Kp.refl _ _ | (with_reducible refine Kp.rng ?_ (by assumption) ?_) | (with_reducible refine Kp.below ?_ (by assumption)) | (with_reducible refine Kp.grown ?_ (by assumption) ?_) | (with_reducible refine Kp.alloc ?_ _) | (with_reducible refine Kp.drew ?_) | (with_reducible refine Kp.drewN ?_ _) | (with_reducible refine Kp.setCell ?_ _ ?_))) <;> (first | omega | (simp; done) | (simp; omega))), (ho2.lo (by first | omega | (simp; done) | (simp; omega))).later (by (repeat (first | with_reducible exact Kp.refl _ _ | (with_reducible refine Kp.rng ?_ (by assumption) ?_) | (with_reducible refine Kp.below ?_ (by assumption)) | (with_reducible refine Kp.grown ?_ (by assumption) ?_) | (with_reducible refine Kp.alloc ?_ _) | (with_reducible refine Kp.drew ?_) | (with_reducible refine Kp.drewN ?_ _) | (with_reducible refine Kp.setCell ?_ _ ?_))) <;> (first | omega | (simp; done) | (simp; omega))), (by first | omega | (simp; done) | (simp; omega)), (by first | omega | (simp; done) | (simp; omega)), (by first | omega | (simp; done) | (simp; omega)), trivial⟩, ?_⟩
      generalize (World.setCell (World.setCell v2 ⟨v1.heap.size, 0, none⟩ (.slice (some ⟨g11, 0, none⟩) rs.length d11)) ⟨v1.heap.size, 1, none⟩ (.slice (some ⟨g21, 0, none⟩) os.length d21)) = W
      generalize v1.heap.size = bx
      rfl
    ·
      refine ⟨rfl, w0.heap.size, g11, d11, g21, d21, ⟨(by (repeat (first | with_reducible exact Below.refl _ _ | (with_reducible refine bel_next ?_ ?_ (by assumption)) | (with_reducible refine Below.alloc ?_ ?_ _) | (with_reducible refine Below.drew ?_) | (with_reducible refine below_drewN ?_ _) | (with_reducible refine Below.setCell ?_ ?_ _))) <;> (first | omega | (simp; done) | (simp; omega))), (by first | (go_simp; done) | assumption), (by first | (go_simp; done) | assumption), (by first | omega | (simp; done) | (simp; omega)), (by first | omega | (simp [World.setCell]; done) | (simp [World.setCell]; omega)), (by first | (go_simp; done) | assumption), (by first | (go_simp; done) | assumption), (ho1.lo (by first | omega | (simp; done) | (simp; omega))).later (by (repeat (first | with_reducible exact Kp.refl _ _ | (with_reducible refine Kp.rng ?_ (by assumption) ?_) | (with_reducible refine Kp.below ?_ (by assumption)) | (with_reducible refine Kp.grown ?_ (by assumption) ?_) | (with_reducible refine Kp.alloc ?_ _) | (with_reducible refine Kp.drew ?_) | (with_reducible refine Kp.drewN ?_ _) | (with_reducible refine Kp.setCell ?_ _ ?_))) <;> (first | omega | (simp; done) | (simp; omega))), (ho2.lo (by first | omega | (simp; done) | (simp; omega))).later (by (repeat (first | with_reducible exact Kp.refl _ _ | (with_reducible refine Kp.rng ?_ (by assumption) ?_) | (with_reducible refine Kp.below ?_ (by assumption)) | (with_reducible refine Kp.grown ?_ (by assumption) ?_) | (with_reducible refine Kp.alloc ?_ _) | (with_reducible refine Kp.drew ?_) | (with_reducible refine Kp.drewN ?_ _) | (with_reducible refine Kp.setCell ?_ _ ?_))) <;> (first | omega | (simp; done) | (simp; omega))), (by first | omega | (simp; done) | (simp; omega)), (by first | omega | (simp; done) | (simp; omega)), (by first | omega | (simp; done) | (simp; omega)), trivial⟩, ?_⟩
      generalize (World.setCell (World.setCell v2 ⟨w0.heap.size, 0, none⟩ (.slice (some ⟨g11, 0, none⟩) rs.length d11)) ⟨w0.heap.size, 1, none⟩ (.slice (some ⟨g21, 0, none⟩) os.length d21)) = W
      generalize w0.heap.size = bx
      rfl
  rintro w1 bx1 g11 d11 g21 d21 ⟨hb1, r1_0, r1_1, r1_2, r1_3, r1_4, r1_5, r1_6, r1_7, r1_8, r1_9, r1_10, r1_11⟩
  have z1 := hb1.size
  (try simp at z1)
  have y1_0 : w.heap.size < w1.heap.size := (by omega)
  have y1_1 : w.heap.size + 1 < w1.heap.size := (by omega)
  have y1_2 : w.heap.size + 1 + 1 < w1.heap.size := (by omega)
  have k1_0 := bel_keeps hb1 (b := w.heap.size) (o := 0) (v := .slice a1 rs.length c1) (by first | (go_simp; done) | assumption)
  have k1_1 := bel_keeps hb1 (b := w.heap.size) (o := 1) (v := .slice a2 os.length c2) (by first | (go_simp; done) | assumption)
  have k1_2 := bel_keeps hb1 (b := w.heap.size + 1) (o := 0) (v := .int .i64 11) (by first | (go_simp; done) | assumption)
  have k1_3 := bel_keeps hb1 (b := w.heap.size + 1) (o := 1) (v := .int .i64 dst) (by first | (go_simp; done) | assumption)
  have k1_4 := bel_keeps hb1 (b := w.heap.size + 1) (o := 2) (v := .int .i64 a) (by first | (go_simp; done) | assumption)
  have k1_5 := bel_keeps hb1 (b := w.heap.size + 1) (o := 3) (v := .int .i64 b) (by first | (go_simp; done) | assumption)
  have k1_6 := bel_keeps hb1 (b := w.heap.size + 1) (o := 4) (v := .int .i64 c) (by first | (go_simp; done) | assumption)
  have k1_7 := bel_keeps hb1 (b := w.heap.size + 1) (o := 5) (v := .int .i64 n) (by first | (go_simp; done) | assumption)
  have k1_8 := bel_keeps hb1 (b := w.heap.size + 1 + 1) (o := 0) (v := .slice none 0 0) (by first | (go_simp; done) | assumption)
  have k1_9 := bel_keeps hb1 (b := w.heap.size + 1 + 1) (o := 1) (v := .slice none 0 0) (by first | (go_simp; done) | assumption)
  have f1_0 := bel_free hb1 (b := w.heap.size + 1 + 1) (o := 0) (by first | omega | (simp; done) | (simp; omega)) (by first | (go_simp; done) | assumption)
  have f1_1 := bel_free hb1 (b := w.heap.size + 1 + 1) (o := 1) (by first | omega | (simp; done) | (simp; omega)) (by first | (go_simp; done) | assumption)
  clear k0_0 k0_1 k0_2 k0_3 k0_4 k0_5 k0_6 k0_7 k0_8 k0_9 f0_0 f0_1
  have hO1 := Lib.hid r1_6
  have hO2 := Lib.hid r1_7
  have lg1 := r1_6.ge
  have lg2 := r1_7.ge
  clear r1_6 r1_7
  go_wp2_with fail
  refine (iStateOk_any rs os _ _ _ _ _ hM1 hM2 (HR1.out.below (by (repeat (first | with_reducible exact Below.refl _ _ | (with_reducible refine bel_next ?_ ?_ (by assumption)) | (with_reducible refine Below.alloc ?_ ?_ _) | (with_reducible refine Below.drew ?_) | (with_reducible refine below_drewN ?_ _) | (with_reducible refine Below.setCell ?_ ?_ _))) <;> (first | omega | (simp; done) | (simp; omega)))) (HR2.out.below (by (repeat (first | with_reducible exact Below.refl _ _ | (with_reducible refine bel_next ?_ ?_ (by assumption)) | (with_reducible refine Below.alloc ?_ ?_ _) | (with_reducible refine Below.drew ?_) | (with_reducible refine below_drewN ?_ _) | (with_reducible refine Below.setCell ?_ ?_ _))) <;> (first | omega | (simp; done) | (simp; omega))))).mono ?_
  rintro e w2 ⟨rfl, hb2⟩
  have z2 := hb2.size
  (try simp at z2)
  have y2_0 : w.heap.size < w2.heap.size := (by omega)
  have y2_1 : w.heap.size + 1 < w2.heap.size := (by omega)
  have y2_2 : w.heap.size + 1 + 1 < w2.heap.size := (by omega)
  have y2_3 : bx1 < w2.heap.size := (by omega)
  have k2_0 := bel_keeps hb2 (b := w.heap.size) (o := 0) (v := .slice a1 rs.length c1) (by first | (go_simp; done) | assumption)
  have k2_1 := bel_keeps hb2 (b := w.heap.size) (o := 1) (v := .slice a2 os.length c2) (by first | (go_simp; done) | assumption)
  have k2_2 := bel_keeps hb2 (b := w.heap.size + 1) (o := 0) (v := .int .i64 11) (by first | (go_simp; done) | assumption)
  have k2_3 := bel_keeps hb2 (b := w.heap.size + 1) (o := 1) (v := .int .i64 dst) (by first | (go_simp; done) | assumption)
  have k2_4 := bel_keeps hb2 (b := w.heap.size + 1) (o := 2) (v := .int .i64 a) (by first | (go_simp; done) | assumption)
  have k2_5 := bel_keeps hb2 (b := w.heap.size + 1) (o := 3) (v := .int .i64 b) (by first | (go_simp; done) | assumption)
  have k2_6 := bel_keeps hb2 (b := w.heap.size + 1) (o := 4) (v := .int .i64 c) (by first | (go_simp; done) | assumption)
  have k2_7 := bel_keeps hb2 (b := w.heap.size + 1) (o := 5) (v := .int .i64 n) (by first | (go_simp; done) | assumption)
  have k2_8 := bel_keeps hb2 (b := w.heap.size + 1 + 1) (o := 0) (v := .slice none 0 0) (by first | (go_simp; done) | assumption)
  have k2_9 := bel_keeps hb2 (b := w.heap.size + 1 + 1) (o := 1) (v := .slice none 0 0) (by first | (go_simp; done) | assumption)
  have k2_10 := bel_keeps hb2 (b := bx1) (o := 0) (v := .slice (some ⟨g11, 0, none⟩) rs.length d11) (by first | (go_simp; done) | assumption)
  have k2_11 := bel_keeps hb2 (b := bx1) (o := 1) (v := .slice (some ⟨g21, 0, none⟩) os.length d21) (by first | (go_simp; done) | assumption)
  have f2_0 := bel_free hb2 (b := w.heap.size + 1 + 1) (o := 0) (by first | omega | (simp; done) | (simp; omega)) (by first | (go_simp; done) | assumption)
  have f2_1 := bel_free hb2 (b := w.heap.size + 1 + 1) (o := 1) (by first | omega | (simp; done) | (simp; omega)) (by first | (go_simp; done) | assumption)
  have f2_2 := bel_free hb2 (b := bx1) (o := 0) (by first | omega | (simp; done) | (simp; omega)) (by first | (go_simp; done) | assumption)
  have f2_3 := bel_free hb2 (b := bx1) (o := 1) (by first | omega | (simp; done) | (simp; omega)) (by first | (go_simp; done) | assumption)
  clear k1_0 k1_1 k1_2 k1_3 k1_4 k1_5 k1_6 k1_7 k1_8 k1_9 r1_0 r1_1 f1_0 f1_1 r1_4 r1_5
  rw [HST.out]
  go_wp2_with fail
  refine (isPlain_any ⟨11, dst, a, b, c, n⟩ _).mono ?_
  rintro e w3 ⟨rfl, hb3⟩
  have z3 := hb3.size
  (try simp at z3)
  have y3_0 : w.heap.size < w3.heap.size := (by omega)
  have y3_1 : w.heap.size + 1 < w3.heap.size := (by omega)
  have y3_2 : w.heap.size + 1 + 1 < w3.heap.size := (by omega)
  have y3_3 : bx1 < w3.heap.size := (by omega)
  have k3_0 := bel_keeps hb3 (b := w.heap.size) (o := 0) (v := .slice a1 rs.length c1) (by first | (go_simp; done) | assumption)
  have k3_1 := bel_keeps hb3 (b := w.heap.size) (o := 1) (v := .slice a2 os.length c2) (by first | (go_simp; done) | assumption)
  have k3_2 := bel_keeps hb3 (b := w.heap.size + 1) (o := 0) (v := .int .i64 11) (by first | (go_simp; done) | assumption)
  have k3_3 := bel_keeps hb3 (b := w.heap.size + 1) (o := 1) (v := .int .i64 dst) (by first | (go_simp; done) | assumption)
  have k3_4 := bel_keeps hb3 (b := w.heap.size + 1) (o := 2) (v := .int .i64 a) (by first | (go_simp; done) | assumption)
  have k3_5 := bel_keeps hb3 (b := w.heap.size + 1) (o := 3) (v := .int .i64 b) (by first | (go_simp; done) | assumption)
  have k3_6 := bel_keeps hb3 (b := w.heap.size + 1) (o := 4) (v := .int .i64 c) (by first | (go_simp; done) | assumption)
  have k3_7 := bel_keeps hb3 (b := w.heap.size + 1) (o := 5) (v := .int .i64 n) (by first | (go_simp; done) | assumption)
  have k3_8 := bel_keeps hb3 (b := w.heap.size + 1 + 1) (o := 0) (v := .slice none 0 0) (by first | (go_simp; done) | assumption)
  have k3_9 := bel_keeps hb3 (b := w.heap.size + 1 + 1) (o := 1) (v := .slice none 0 0) (by first | (go_simp; done) | assumption)
  have k3_10 := bel_keeps hb3 (b := bx1) (o := 0) (v := .slice (some ⟨g11, 0, none⟩) rs.length d11) (by first | (go_simp; done) | assumption)
  have k3_11 := bel_keeps hb3 (b := bx1) (o := 1) (v := .slice (some ⟨g21, 0, none⟩) os.length d21) (by first | (go_simp; done) | assumption)
  have f3_0 := bel_free hb3 (b := w.heap.size + 1 + 1) (o := 0) (by first | omega | (simp; done) | (simp; omega)) (by first | (go_simp; done) | assumption)
  have f3_1 := bel_free hb3 (b := w.heap.size + 1 + 1) (o := 1) (by first | omega | (simp; done) | (simp; omega)) (by first | (go_simp; done) | assumption)
  have f3_2 := bel_free hb3 (b := bx1) (o := 0) (by first | omega | (simp; done) | (simp; omega)) (by first | (go_simp; done) | assumption)
  have f3_3 := bel_free hb3 (b := bx1) (o := 1) (by first | omega | (simp; done) | (simp; omega)) (by first | (go_simp; done) | assumption)
  clear k2_0 k2_1 k2_2 k2_3 k2_4 k2_5 k2_6 k2_7 k2_8 k2_9 k2_10 k2_11 f2_0 f2_1 f2_2 f2_3
  rw [HP.out]
  go_wp2_with fail
  refine (iInputsOk_any rr _ _ _ hMr hml (HRI.out.below (by (repeat (first | with_reducible exact Below.refl _ _ | (with_reducible refine bel_next ?_ ?_ (by assumption)) | (with_reducible refine Below.alloc ?_ ?_ _) | (with_reducible refine Below.drew ?_) | (with_reducible refine below_drewN ?_ _) | (with_reducible refine Below.setCell ?_ ?_ _))) <;> (first | omega | (simp; done) | (simp; omega))))).mono ?_
  rintro e _ ⟨rfl, rfl⟩
  rw [HIN.out]
  obtain ⟨bba, ooa, haaa, hcca⟩ := (show RdC w3 a1 (I64 rs) from HR1.out.below (by (repeat (first | with_reducible exact Below.refl _ _ | (with_reducible refine bel_next ?_ ?_ (by assumption)) | (with_reducible refine Below.alloc ?_ ?_ _) | (with_reducible refine Below.drew ?_) | (with_reducible refine below_drewN ?_ _) | (with_reducible refine Below.setCell ?_ ?_ _))) <;> (first | omega | (simp; done) | (simp; omega)))).at a.toNat (by have := H8.out; omega)
  have cca := hcca a.toNat (by have := H8.out; omega)
  rw [← HQa.out] at cca
  have lta := lt_of_cell cca
  subst haaa
  clear hcca
  have hab : bba < w.heap.size := by rcases HR1.out with h | ⟨b, o, h, hc⟩ <;> first | (have hz : rs.length = 0 := (by simpa using congrArg List.length h); have := H8.out; omega) | (simp only [Option.some.injEq, Addr.mk.injEq, and_true] at h; obtain ⟨rfl, rfl⟩ := h; exact lt_of_cell (hc 0 (by have := H8.out; simp; omega)))
  go_wp2_with fail
  go_region_law (refine step_push _ rfl _ _ rfl (w0.heap.size) g21 os.length d21 os xa w3.heap.size 1 (by rfl) (by rfl) (hO2.out.later (by (repeat (first | with_reducible exact Kp.refl _ _ | (with_reducible refine Kp.rng ?_ (by assumption) ?_) | (with_reducible refine Kp.below ?_ (by assumption)) | (with_reducible refine Kp.grown ?_ (by assumption) ?_) | (with_reducible refine Kp.alloc ?_ _) | (with_reducible refine Kp.drew ?_) | (with_reducible refine Kp.drewN ?_ _) | (with_reducible refine Kp.setCell ?_ _ ?_))) <;> (first | omega | (simp; done) | (simp; omega)))) (by go_simp) (by omega) (by first | omega | (simp; done) | (simp; omega)) ?_; intro g4 d4 w4 ho4 hb4 hg4 hat4; (try simp at hat4); have z4 := hb4.size; (try simp at z4); have y4 := hg4.size; (try simp at y4); have m4_0 := grown_cell hg4 (b := bx1) (o := 0) (x := .slice (some ⟨g11, 0, none⟩) rs.length d11) (by first | (simp; done) | (simp; omega) | omega) (by go_simp); have m4_1 := grown_cell hg4 (b := bx1) (o := 1) (x := .slice (some ⟨g21, 0, none⟩) os.length d21) (by first | (simp; done) | (simp; omega) | omega) (by go_simp); have m4_2 := grown_cell hg4 (b := w.heap.size + 1 + 1) (o := 0) (x := .slice none 0 0) (by first | (simp; done) | (simp; omega) | omega) (by go_simp); have m4_3 := grown_cell hg4 (b := w.heap.size + 1 + 1) (o := 1) (x := .slice none 0 0) (by first | (simp; done) | (simp; omega) | omega) (by go_simp); have p4_0 := grown_free hg4 (b := bx1) (o := 0) (by first | (simp; done) | (simp; omega) | omega) (by first | (simp; done) | (simp; omega) | omega) (by go_simp); have p4_1 := grown_free hg4 (b := bx1) (o := 1) (by first | (simp; done) | (simp; omega) | omega) (by first | (simp; done) | (simp; omega) | omega) (by go_simp); have p4_2 := grown_free hg4 (b := w.heap.size + 1 + 1) (o := 0) (by first | (simp; done) | (simp; omega) | omega) (by first | (simp; done) | (simp; omega) | omega) (by go_simp); have p4_3 := grown_free hg4 (b := w.heap.size + 1 + 1) (o := 1) (by first | (simp; done) | (simp; omega) | omega) (by first | (simp; done) | (simp; omega) | omega) (by go_simp); have l4 := ho4.ge; have hO4 := Lib.hid ho4; clear ho4)
  all_goals
    go_wp2_with fail
    refine bodyPost_ret (v := .agg #[.slice (some ⟨g11, 0, none⟩) (rs.length) d11, .slice (some ⟨g4, 0, none⟩) (os.length + 1) d4]) (by simp [results, Try.results57, go_sem, m4_2, m4_3, p4_2, p4_3]) rfl ⟨g11, d11, g4, d4, by simp, ?_, ?_, ?_, ?_⟩
    · simpa using (hO1.out.lo (lo' := w.heap.size) (by omega)).later (by (repeat (first | with_reducible exact Kp.refl _ _ | (with_reducible refine Kp.rng ?_ (by assumption) ?_) | (with_reducible refine Kp.below ?_ (by assumption)) | (with_reducible refine Kp.grown ?_ (by assumption) ?_) | (with_reducible refine Kp.alloc ?_ _) | (with_reducible refine Kp.drew ?_) | (with_reducible refine Kp.drewN ?_ _) | (with_reducible refine Kp.setCell ?_ _ ?_))) <;> (first | omega | (simp; done) | (simp; omega)))
    · simpa using (hO4.out.lo (lo' := w.heap.size) (by omega)).later (by (repeat (first | with_reducible exact Kp.refl _ _ | (with_reducible refine Kp.rng ?_ (by assumption) ?_) | (with_reducible refine Kp.below ?_ (by assumption)) | (with_reducible refine Kp.grown ?_ (by assumption) ?_) | (with_reducible refine Kp.alloc ?_ _) | (with_reducible refine Kp.drew ?_) | (with_reducible refine Kp.drewN ?_ _) | (with_reducible refine Kp.setCell ?_ _ ?_))) <;> (first | omega | (simp; done) | (simp; omega)))
    · omega
    · exact (by (repeat (first | with_reducible exact Below.refl _ _ | (with_reducible refine bel_next ?_ ?_ (by assumption)) | (with_reducible refine Below.alloc ?_ ?_ _) | (with_reducible refine Below.drew ?_) | (with_reducible refine below_drewN ?_ _) | (with_reducible refine Below.setCell ?_ ?_ _))) <;> (first | omega | (simp; done) | (simp; omega)))
set_option maxRecDepth 20000 in
set_option maxHeartbeats 8000000 in
theorem iStep_def (rs os : List Int) (a1 a2 : Option Addr) (c1 c2 : Nat) (op dst a b c n : Int) (rr : List Rw) (ai : Option Addr) (ci : Nat) (w : World) (hm1 : rs.length ≤ 1048576) (hm2 : os.length ≤ 1048576) (hr1 : RdC w a1 (I64 rs)) (hr2 : RdC w a2 (I64 os)) (hmr : rr.length ≤ 1048576) (hml : rowsLe rr) (hri : RdR w ai rr) (h1 : stateOk rs os = true) (h2 : plainB ⟨op, dst, a, b, c, n⟩ = true) (h3 : inputsOk (rr.map Rw.xs) = true) (p1 : ¬ op = 1) (p2 : ¬ op = 2) (p10 : ¬ op = 10) (p11 : ¬ op = 11) :
    Calls Try.prog 57 #[.agg #[.slice a1 rs.length c1, .slice a2 os.length c2], stV ⟨op, dst, a, b, c, n⟩, .slice ai rr.length ci] w fun e w' => ∃ g1 d1 g2 d2, e = .returned (.agg #[.slice (some ⟨g1, 0, none⟩) (stepRegs rs os ⟨op, dst, a, b, c, n⟩ (rr.map Rw.xs)).length d1, .slice (some ⟨g2, 0, none⟩) (stepOuts rs os ⟨op, dst, a, b, c, n⟩ (rr.map Rw.xs)).length d2]) ∧
      Own w' w.heap.size 3 1 (some ⟨g1, 0, none⟩) (stepRegs rs os ⟨op, dst, a, b, c, n⟩ (rr.map Rw.xs)).length d1 (I64 (stepRegs rs os ⟨op, dst, a, b, c, n⟩ (rr.map Rw.xs))) ∧ Own w' w.heap.size 3 1 (some ⟨g2, 0, none⟩) (stepOuts rs os ⟨op, dst, a, b, c, n⟩ (rr.map Rw.xs)).length d2 (I64 (stepOuts rs os ⟨op, dst, a, b, c, n⟩ (rr.map Rw.xs))) ∧ g1 < g2 ∧ Below w.heap.size w w' := by
  have hM1 : rs.length ≤ maxLen := by unfold maxLen; omega
  have hM2 : os.length ≤ maxLen := by unfold maxLen; omega
  have hMr : rr.length ≤ maxLen := by unfold maxLen; omega
  have HN1 := Lib.hid (rd_none hr1)
  have HN2 := Lib.hid (rd_none hr2)
  have HR1 := Lib.hid hr1
  have HR2 := Lib.hid hr2
  have HRI := Lib.hid hri
  clear hr1 hr2 hri
  have hB : stepB ⟨op, dst, a, b, c, n⟩ rs os (rr.map Rw.xs) = true := by simp [stepB, h1, h2, h3]
  have hst : stOk ⟨op, dst, a, b, c, n⟩ = true := by have h := h2; simp [plainB] at h; first | exact h | exact h.1
  have hop : op ≤ 11 := by have h := h2; simp [plainB] at h; exact h.2
  have hh := stok_regs hst
  simp only at hh
  obtain ⟨o1, o13, r0, r1, r2, r3, r4, r5, r6, r7⟩ := hh
  have h8 := stateOk_len h1
  have h5 := inputs_len h3
  obtain ⟨v, hv⟩ : ∃ v, v = stepVal ⟨op, dst, a, b, c, n⟩ rs (rr.map Rw.xs) := ⟨_, rfl⟩
  have e1 : (stepRegs rs os ⟨op, dst, a, b, c, n⟩ (rr.map Rw.xs)) = rs.set dst.toNat v := by simp [stepRegs, hB, hv, p11]
  have e2 : (stepOuts rs os ⟨op, dst, a, b, c, n⟩ (rr.map Rw.xs)) = os := by simp [stepOuts, p11]
  have hv2 : v = operateF op (rgd rs a) (rgd rs b) := by rw [hv]; simp [stepVal, p1, p2, p10, p11]
  clear hv
  rw [e1, e2]
  clear hB e1 e2
  have H8 := Lib.hid h8
  have H5 := Lib.hid h5
  have HST := Lib.hid h1
  have HP := Lib.hid h2
  have HIN := Lib.hid h3
  have q1 : (op == 1) = false := by simp [p1]
  have q2 : (op == 2) = false := by simp [p2]
  have q10 : (op == 10) = false := by simp [p10]
  have q11 : (op == 11) = false := by simp [p11]
  clear p1 p2 p10 p11
  clear h1 h2 h3 hst h8 h5
  have hta : a.toNat < rs.length := by have := H8.out; omega
  have hxa : rgd rs a = rs[a.toNat] := rgd_at hta
  obtain ⟨xa, hqa⟩ : ∃ x, x = rs[a.toNat] := ⟨_, rfl⟩
  rw [← hqa] at hxa
  have hia : a < (rs.length : Int) := by have := H8.out; omega
  have htb : b.toNat < rs.length := by have := H8.out; omega
  have hxb : rgd rs b = rs[b.toNat] := rgd_at htb
  obtain ⟨xb, hqb⟩ : ∃ x, x = rs[b.toNat] := ⟨_, rfl⟩
  rw [← hqb] at hxb
  have hib : b < (rs.length : Int) := by have := H8.out; omega
  rw [hxa, hxb] at hv2
  clear hxa hxb
  have hdt : dst.toNat < rs.length := by have := H8.out; omega
  have hd8 : dst < (rs.length : Int) := by have := H8.out; omega
  have HQa := Lib.hid hqa
  clear hqa
  have HQb := Lib.hid hqb
  clear hqb
  have HV2 := Lib.hid hv2
  clear hv2
  unfold stV
  go_enter Try.func57, Try.ntmps57
  go_wp2_with fail
  obtain ⟨w0, hw0⟩ : ∃ W, W = ((w.alloc (.cells #[.slice a1 rs.length c1, .slice a2 os.length c2] 57)).alloc (.cells #[.int .i64 op, .int .i64 dst, .int .i64 a, .int .i64 b, .int .i64 c, .int .i64 n] 38)).alloc (.cells #[.slice none 0 0, .slice none 0 0] 57) := ⟨_, rfl⟩
  rw [← hw0]
  have hb0 : Below w.heap.size w w0 := by rw [hw0]; exact (by (repeat (first | with_reducible exact Below.refl _ _ | (with_reducible refine bel_next ?_ ?_ (by assumption)) | (with_reducible refine Below.alloc ?_ ?_ _) | (with_reducible refine Below.drew ?_) | (with_reducible refine below_drewN ?_ _) | (with_reducible refine Below.setCell ?_ ?_ _))) <;> (first | omega | (simp; done) | (simp; omega)))
  have z0 : w.heap.size + 1 + 1 < w0.heap.size := by rw [hw0]; simp
  have k0_0 : w0.cell? ⟨w.heap.size, 0, none⟩ = some (.slice a1 rs.length c1) := by rw [hw0]; go_simp
  have k0_1 : w0.cell? ⟨w.heap.size, 1, none⟩ = some (.slice a2 os.length c2) := by rw [hw0]; go_simp
  have k0_2 : w0.cell? ⟨w.heap.size + 1, 0, none⟩ = some (.int .i64 op) := by rw [hw0]; go_simp
  have k0_3 : w0.cell? ⟨w.heap.size + 1, 1, none⟩ = some (.int .i64 dst) := by rw [hw0]; go_simp
  have k0_4 : w0.cell? ⟨w.heap.size + 1, 2, none⟩ = some (.int .i64 a) := by rw [hw0]; go_simp
  have k0_5 : w0.cell? ⟨w.heap.size + 1, 3, none⟩ = some (.int .i64 b) := by rw [hw0]; go_simp
  have k0_6 : w0.cell? ⟨w.heap.size + 1, 4, none⟩ = some (.int .i64 c) := by rw [hw0]; go_simp
  have k0_7 : w0.cell? ⟨w.heap.size + 1, 5, none⟩ = some (.int .i64 n) := by rw [hw0]; go_simp
  have k0_8 : w0.cell? ⟨w.heap.size + 1 + 1, 0, none⟩ = some (.slice none 0 0) := by rw [hw0]; go_simp
  have k0_9 : w0.cell? ⟨w.heap.size + 1 + 1, 1, none⟩ = some (.slice none 0 0) := by rw [hw0]; go_simp
  have f0_0 : w0.frozen? ⟨w.heap.size + 1 + 1, 0, none⟩ = false := by rw [hw0]; go_simp
  have f0_1 : w0.frozen? ⟨w.heap.size + 1 + 1, 1, none⟩ = false := by rw [hw0]; go_simp
  clear hw0
  go_wp2_with fail
  apply wp_share5 (F := fun W bx1 g11 d11 g21 d21 => Below w0.heap.size w0 W ∧ W.cell? ⟨bx1, 0, none⟩ = some (.slice (some ⟨g11, 0, none⟩) rs.length d11) ∧ W.cell? ⟨bx1, 1, none⟩ = some (.slice (some ⟨g21, 0, none⟩) os.length d21) ∧ w0.heap.size ≤ bx1 ∧ bx1 < W.heap.size ∧ W.frozen? ⟨bx1, 0, none⟩ = false ∧ W.frozen? ⟨bx1, 1, none⟩ = false ∧ Own W w0.heap.size 3 1 (some ⟨g11, 0, none⟩) rs.length d11 (I64 rs) ∧ Own W w0.heap.size 3 1 (some ⟨g21, 0, none⟩) os.length d21 (I64 os) ∧ g11 < g21 ∧ bx1 ≠ g11 ∧ bx1 ≠ g21 ∧ True)
  case h1 =>
    have a0_1 : w0.heap.size ≠ 0 ∨ True := .inr trivial
    have n1_71 : w.heap.size ≠ w0.heap.size := (by omega)
    have n1_71a : w0.heap.size ≠ w.heap.size := (by omega)
    have n1_73 : w.heap.size + 1 ≠ w0.heap.size := (by omega)
    have n1_73a : w0.heap.size ≠ w.heap.size + 1 := (by omega)
    have n1_75 : w.heap.size + 1 + 1 ≠ w0.heap.size := (by omega)
    have n1_75a : w0.heap.size ≠ w.heap.size + 1 + 1 := (by omega)
    go_region_held3 (fun w' => w'.cell? ⟨w.heap.size, 0, none⟩ = some (.slice a1 rs.length c1) ∧ w'.cell? ⟨w.heap.size, 1, none⟩ = some (.slice a2 os.length c2))
      (first | go_keep)
      (first | (go_at_call 90; refine (ints_any rs a1 c1 _ (by omega) (HR1.out.below (by (repeat (first | with_reducible exact Below.refl _ _ | (with_reducible refine bel_next ?_ ?_ (by assumption)) | (with_reducible refine Below.alloc ?_ ?_ _) | (with_reducible refine Below.drew ?_) | (with_reducible refine below_drewN ?_ _) | (with_reducible refine Below.setCell ?_ ?_ _))) <;> (first | omega | (simp; done) | (simp; omega))))).mono ?_; rintro e v1 ⟨g11, d11, rfl, ho1, _, _, hv1⟩; have zv1 := hv1.size; (try simp at zv1); have ge1 := ho1.ge; (try simp at ge1); have yv1_0 : w.heap.size < v1.heap.size := (by omega); have nv1_0 : w.heap.size ≠ v1.heap.size := (by omega); have mv1_0 : v1.heap.size ≠ w.heap.size := (by omega); have kv1_0 := bel_keeps hv1 (b := w.heap.size) (o := 0) (v := .slice a1 rs.length c1) (by first | (go_simp; done) | assumption); have kv1_1 := bel_keeps hv1 (b := w.heap.size) (o := 1) (v := .slice a2 os.length c2) (by first | (go_simp; done) | assumption); (try have yc1_0 : w0.heap.size < v1.heap.size := (by omega)); (try have bc1_00 := bel_keeps hv1 (b := w0.heap.size) (o := 0) (v := .slice none 0 0) (by first | (go_simp; done) | assumption)); (try have qc1_00 := bel_free hv1 (b := w0.heap.size) (o := 0) (by first | omega | (simp; done) | (simp; omega)) (by first | (go_simp; done) | assumption)); (try have bc1_01 := bel_keeps hv1 (b := w0.heap.size) (o := 1) (v := .slice none 0 0) (by first | (go_simp; done) | assumption)); (try have qc1_01 := bel_free hv1 (b := w0.heap.size) (o := 1) (by first | omega | (simp; done) | (simp; omega)) (by first | (go_simp; done) | assumption))) | (go_at_call 90; refine (ints_any os a2 c2 _ (by omega) (HR2.out.below (by (repeat (first | with_reducible exact Below.refl _ _ | (with_reducible refine bel_next ?_ ?_ (by assumption)) | (with_reducible refine Below.alloc ?_ ?_ _) | (with_reducible refine Below.drew ?_) | (with_reducible refine below_drewN ?_ _) | (with_reducible refine Below.setCell ?_ ?_ _))) <;> (first | omega | (simp; done) | (simp; omega))))).mono ?_; rintro e v2 ⟨g21, d21, rfl, ho2, _, _, hv2⟩; have zv2 := hv2.size; (try simp at zv2); have ge2 := ho2.ge; (try simp at ge2); have yv2_0 : w.heap.size < v2.heap.size := (by omega); have nv2_0 : w.heap.size ≠ v2.heap.size := (by omega); have mv2_0 : v2.heap.size ≠ w.heap.size := (by omega); have kv2_0 := bel_keeps hv2 (b := w.heap.size) (o := 0) (v := .slice a1 rs.length c1) (by first | (go_simp; done) | assumption); have kv2_1 := bel_keeps hv2 (b := w.heap.size) (o := 1) (v := .slice a2 os.length c2) (by first | (go_simp; done) | assumption); (try have yc2_0 : w0.heap.size < v2.heap.size := (by omega)); (try have bc2_00 := bel_keeps hv2 (b := w0.heap.size) (o := 0) (v := .slice none 0 0) (by first | (go_simp; done) | assumption)); (try have qc2_00 := bel_free hv2 (b := w0.heap.size) (o := 0) (by first | omega | (simp; done) | (simp; omega)) (by first | (go_simp; done) | assumption)); (try have bc2_01 := bel_keeps hv2 (b := w0.heap.size) (o := 1) (v := .slice none 0 0) (by first | (go_simp; done) | assumption)); (try have qc2_01 := bel_free hv2 (b := w0.heap.size) (o := 1) (by first | omega | (simp; done) | (simp; omega)) (by first | (go_simp; done) | assumption)); (try have yc2_1 : v1.heap.size < v2.heap.size := (by omega)); (try have bc2_10 := bel_keeps hv2 (b := v1.heap.size) (o := 0) (v := .slice none 0 0) (by first | (go_simp; done) | assumption)); (try have qc2_10 := bel_free hv2 (b := v1.heap.size) (o := 0) (by first | omega | (simp; done) | (simp; omega)) (by first | (go_simp; done) | assumption)); (try have bc2_11 := bel_keeps hv2 (b := v1.heap.size) (o := 1) (v := .slice none 0 0) (by first | (go_simp; done) | assumption)); (try have qc2_11 := bel_free hv2 (b := v1.heap.size) (o := 1) (by first | omega | (simp; done) | (simp; omega)) (by first | (go_simp; done) | assumption))))
    ·
      refine ⟨rfl, v2.heap.size, g11, d11, g21, d21, ⟨(by (repeat (first | with_reducible exact Below.refl _ _ | (with_reducible refine bel_next ?_ ?_ (by assumption)) | (with_reducible refine Below.alloc ?_ ?_ _) | (with_reducible refine Below.drew ?_) | (with_reducible refine below_drewN ?_ _) | (with_reducible refine Below.setCell ?_ ?_ _))) <;> (first | omega | (simp; done) | (simp; omega))), (by first | (go_simp; done) | assumption), (by first | (go_simp; done) | assumption), (by first | omega | (simp; done) | (simp; omega)), (by first | omega | (simp [World.setCell]; done) | (simp [World.setCell]; omega)), (by first | (go_simp; done) | assumption), (by first | (go_simp; done) | assumption), (ho1.lo (by first | omega | (simp; done) | (simp; omega))).later (by (repeat (first | with_reducible exact Kp.refl _ _ | (with_reducible refine Kp.rng ?_ (by assumption) ?_) | (with_reducible refine Kp.below ?_ (by assumption)) | (with_reducible refine Kp.grown ?_ (by assumption) ?_) | (with_reducible refine Kp.alloc ?_ _) | (with_reducible refine Kp.drew ?_) | (with_reducible refine Kp.drewN ?_ _) | (with_reducible refine Kp.setCell ?_ _ ?_))) <;> (first | omega | (simp; done) | (simp; omega))), (ho2.lo (by first | omega | (simp; done) | (simp; omega))).later (by (repeat (first | with_reducible exact Kp.refl _ _ | (with_reducible refine Kp.rng ?_ (by assumption) ?_) | (with_reducible refine Kp.below ?_ (by assumption)) | (with_reducible refine Kp.grown ?_ (by assumption) ?_) | (with_reducible refine Kp.alloc ?_ _) | (with_reducible refine Kp.drew ?_) | (with_reducible refine Kp.drewN ?_ _) | (with_reducible refine Kp.setCell ?_ _ ?_))) <;> (first | omega | (simp; done) | (simp; omega))), (by first | omega | (simp; done) | (simp; omega)), (by first | omega | (simp; done) | (simp; omega)), (by first | omega | (simp; done) | (simp; omega)), trivial⟩, ?_⟩
      generalize (v2.alloc (.cells #[.slice (some ⟨g11, 0, none⟩) rs.length d11, .slice (some ⟨g21, 0, none⟩) os.length d21] 57)) = W
      generalize v2.heap.size = bx
      rfl
    ·
      refine ⟨rfl, v1.heap.size, g11, d11, g21, d21, ⟨(by (repeat (first | with_reducible exact Below.refl _ _ | (with_reducible refine bel_next ?_ ?_ (by assumption)) | (with_reducible refine Below.alloc ?_ ?_ _) | (with_reducible refine Below.drew ?_) | (with_reducible refine below_drewN ?_ _) | (with_reducible refine Below.setCell ?_ ?_ _))) <;> (first | omega | (simp; done) | (simp; omega))), (by first | (go_simp; done) | assumption), (by first | (go_simp; done) | assumption), (by first | omega | (simp; done) | (simp; omega)), (by first | omega | (simp [World.setCell]; done) | (simp [World.setCell]; omega)), (by first | (go_simp; done) | assumption), (by first | (go_simp; done) | assumption), (ho1.lo (by first | omega | (simp; done) | (simp; omega))).later (by (repeat (first | with_reducible exact Kp.refl _ _ | (with_reducible refine Kp.rng ?_ (by assumption) ?_) | (with_reducible refine Kp.below ?_ (by assumption)) | (with_reducible refine Kp.grown ?_ (by assumption) ?_) | (with_reducible refine Kp.alloc ?_ _) | (with_reducible refine Kp.drew ?_) | (with_reducible refine Kp.drewN ?_ _) | (with_reducible refine Kp.setCell ?_ _ ?_))) <;> (first | omega | (simp; done) | (simp; omega))), (ho2.lo (by first | omega | (simp; done) | (simp; omega))).later (by (repeat (first | with_reducible exact Kp.refl _ _ | (with_reducible refine Kp.rng ?_ (by assumption) ?_) | (with_reducible refine Kp.below ?_ (by assumption)) | (with_reducible refine Kp.grown ?_ (by assumption) ?_) | (with_reducible refine Kp.alloc ?_ _) | (with_reducible refine Kp.drew ?_) | (with_reducible refine Kp.drewN ?_ _) | (with_reducible refine Kp.setCell ?_ _ ?_))) <;> (first | omega | (simp; done) | (simp; omega))), (by first | omega | (simp; done) | (simp; omega)), (by first | omega | (simp; done) | (simp; omega)), (by first | omega | (simp; done) | (simp; omega)), trivial⟩, ?_⟩
      generalize (World.setCell (World.setCell v2 ⟨v1.heap.size, 0, none⟩ (.slice (some ⟨g11, 0, none⟩) rs.length d11)) ⟨v1.heap.size, 1, none⟩ (.slice (some ⟨g21, 0, none⟩) os.length d21)) = W
      generalize v1.heap.size = bx
      rfl
    ·
      refine ⟨rfl, w0.heap.size, g11, d11, g21, d21, ⟨(by (repeat (first | with_reducible exact Below.refl _ _ | (with_reducible refine bel_next ?_ ?_ (by assumption)) | (with_reducible refine Below.alloc ?_ ?_ _) | (with_reducible refine Below.drew ?_) | (with_reducible refine below_drewN ?_ _) | (with_reducible refine Below.setCell ?_ ?_ _))) <;> (first | omega | (simp; done) | (simp; omega))), (by first | (go_simp; done) | assumption), (by first | (go_simp; done) | assumption), (by first | omega | (simp; done) | (simp; omega)), (by first | omega | (simp [World.setCell]; done) | (simp [World.setCell]; omega)), (by first | (go_simp; done) | assumption), (by first | (go_simp; done) | assumption), (ho1.lo (by first | omega | (simp; done) | (simp; omega))).later (by (repeat (first | with_reducible exact Kp.refl _ _ | (with_reducible refine Kp.rng ?_ (by assumption) ?_) | (with_reducible refine Kp.below ?_ (by assumption)) | (with_reducible refine Kp.grown ?_ (by assumption) ?_) | (with_reducible refine Kp.alloc ?_ _) | (with_reducible refine Kp.drew ?_) | (with_reducible refine Kp.drewN ?_ _) | (with_reducible refine Kp.setCell ?_ _ ?_))) <;> (first | omega | (simp; done) | (simp; omega))), (ho2.lo (by first | omega | (simp; done) | (simp; omega))).later (by (repeat (first | with_reducible exact Kp.refl _ _ | (with_reducible refine Kp.rng ?_ (by assumption) ?_) | (with_reducible refine Kp.below ?_ (by assumption)) | (with_reducible refine Kp.grown ?_ (by assumption) ?_) | (with_reducible refine Kp.alloc ?_ _) | (with_reducible refine Kp.drew ?_) | (with_reducible refine Kp.drewN ?_ _) | (with_reducible refine Kp.setCell ?_ _ ?_))) <;> (first | omega | (simp; done) | (simp; omega))), (by first | omega | (simp; done) | (simp; omega)), (by first | omega | (simp; done) | (simp; omega)), (by first | omega | (simp; done) | (simp; omega)), trivial⟩, ?_⟩
      generalize (World.setCell (World.setCell v2 ⟨w0.heap.size, 0, none⟩ (.slice (some ⟨g11, 0, none⟩) rs.length d11)) ⟨w0.heap.size, 1, none⟩ (.slice (some ⟨g21, 0, none⟩) os.length d21)) = W
      generalize w0.heap.size = bx
      rfl
  rintro w1 bx1 g11 d11 g21 d21 ⟨hb1, r1_0, r1_1, r1_2, r1_3, r1_4, r1_5, r1_6, r1_7, r1_8, r1_9, r1_10, r1_11⟩
  have z1 := hb1.size
  (try simp at z1)
  have y1_0 : w.heap.size < w1.heap.size := (by omega)
  have y1_1 : w.heap.size + 1 < w1.heap.size := (by omega)
  have y1_2 : w.heap.size + 1 + 1 < w1.heap.size := (by omega)
  have k1_0 := bel_keeps hb1 (b := w.heap.size) (o := 0) (v := .slice a1 rs.length c1) (by first | (go_simp; done) | assumption)
  have k1_1 := bel_keeps hb1 (b := w.heap.size) (o := 1) (v := .slice a2 os.length c2) (by first | (go_simp; done) | assumption)
  have k1_2 := bel_keeps hb1 (b := w.heap.size + 1) (o := 0) (v := .int .i64 op) (by first | (go_simp; done) | assumption)
  have k1_3 := bel_keeps hb1 (b := w.heap.size + 1) (o := 1) (v := .int .i64 dst) (by first | (go_simp; done) | assumption)
  have k1_4 := bel_keeps hb1 (b := w.heap.size + 1) (o := 2) (v := .int .i64 a) (by first | (go_simp; done) | assumption)
  have k1_5 := bel_keeps hb1 (b := w.heap.size + 1) (o := 3) (v := .int .i64 b) (by first | (go_simp; done) | assumption)
  have k1_6 := bel_keeps hb1 (b := w.heap.size + 1) (o := 4) (v := .int .i64 c) (by first | (go_simp; done) | assumption)
  have k1_7 := bel_keeps hb1 (b := w.heap.size + 1) (o := 5) (v := .int .i64 n) (by first | (go_simp; done) | assumption)
  have k1_8 := bel_keeps hb1 (b := w.heap.size + 1 + 1) (o := 0) (v := .slice none 0 0) (by first | (go_simp; done) | assumption)
  have k1_9 := bel_keeps hb1 (b := w.heap.size + 1 + 1) (o := 1) (v := .slice none 0 0) (by first | (go_simp; done) | assumption)
  have f1_0 := bel_free hb1 (b := w.heap.size + 1 + 1) (o := 0) (by first | omega | (simp; done) | (simp; omega)) (by first | (go_simp; done) | assumption)
  have f1_1 := bel_free hb1 (b := w.heap.size + 1 + 1) (o := 1) (by first | omega | (simp; done) | (simp; omega)) (by first | (go_simp; done) | assumption)
  clear k0_0 k0_1 k0_2 k0_3 k0_4 k0_5 k0_6 k0_7 k0_8 k0_9 f0_0 f0_1
  have hO1 := Lib.hid r1_6
  have hO2 := Lib.hid r1_7
  have lg1 := r1_6.ge
  have lg2 := r1_7.ge
  clear r1_6 r1_7
  go_wp2_with fail
  refine (iStateOk_any rs os _ _ _ _ _ hM1 hM2 (HR1.out.below (by (repeat (first | with_reducible exact Below.refl _ _ | (with_reducible refine bel_next ?_ ?_ (by assumption)) | (with_reducible refine Below.alloc ?_ ?_ _) | (with_reducible refine Below.drew ?_) | (with_reducible refine below_drewN ?_ _) | (with_reducible refine Below.setCell ?_ ?_ _))) <;> (first | omega | (simp; done) | (simp; omega)))) (HR2.out.below (by (repeat (first | with_reducible exact Below.refl _ _ | (with_reducible refine bel_next ?_ ?_ (by assumption)) | (with_reducible refine Below.alloc ?_ ?_ _) | (with_reducible refine Below.drew ?_) | (with_reducible refine below_drewN ?_ _) | (with_reducible refine Below.setCell ?_ ?_ _))) <;> (first | omega | (simp; done) | (simp; omega))))).mono ?_
  rintro e w2 ⟨rfl, hb2⟩
  have z2 := hb2.size
  (try simp at z2)
  have y2_0 : w.heap.size < w2.heap.size := (by omega)
  have y2_1 : w.heap.size + 1 < w2.heap.size := (by omega)
  have y2_2 : w.heap.size + 1 + 1 < w2.heap.size := (by omega)
  have y2_3 : bx1 < w2.heap.size := (by omega)
  have k2_0 := bel_keeps hb2 (b := w.heap.size) (o := 0) (v := .slice a1 rs.length c1) (by first | (go_simp; done) | assumption)
  have k2_1 := bel_keeps hb2 (b := w.heap.size) (o := 1) (v := .slice a2 os.length c2) (by first | (go_simp; done) | assumption)
  have k2_2 := bel_keeps hb2 (b := w.heap.size + 1) (o := 0) (v := .int .i64 op) (by first | (go_simp; done) | assumption)
  have k2_3 := bel_keeps hb2 (b := w.heap.size + 1) (o := 1) (v := .int .i64 dst) (by first | (go_simp; done) | assumption)
  have k2_4 := bel_keeps hb2 (b := w.heap.size + 1) (o := 2) (v := .int .i64 a) (by first | (go_simp; done) | assumption)
  have k2_5 := bel_keeps hb2 (b := w.heap.size + 1) (o := 3) (v := .int .i64 b) (by first | (go_simp; done) | assumption)
  have k2_6 := bel_keeps hb2 (b := w.heap.size + 1) (o := 4) (v := .int .i64 c) (by first | (go_simp; done) | assumption)
  have k2_7 := bel_keeps hb2 (b := w.heap.size + 1) (o := 5) (v := .int .i64 n) (by first | (go_simp; done) | assumption)
  have k2_8 := bel_keeps hb2 (b := w.heap.size + 1 + 1) (o := 0) (v := .slice none 0 0) (by first | (go_simp; done) | assumption)
  have k2_9 := bel_keeps hb2 (b := w.heap.size + 1 + 1) (o := 1) (v := .slice none 0 0) (by first | (go_simp; done) | assumption)
  have k2_10 := bel_keeps hb2 (b := bx1) (o := 0) (v := .slice (some ⟨g11, 0, none⟩) rs.length d11) (by first | (go_simp; done) | assumption)
  have k2_11 := bel_keeps hb2 (b := bx1) (o := 1) (v := .slice (some ⟨g21, 0, none⟩) os.length d21) (by first | (go_simp; done) | assumption)
  have f2_0 := bel_free hb2 (b := w.heap.size + 1 + 1) (o := 0) (by first | omega | (simp; done) | (simp; omega)) (by first | (go_simp; done) | assumption)
  have f2_1 := bel_free hb2 (b := w.heap.size + 1 + 1) (o := 1) (by first | omega | (simp; done) | (simp; omega)) (by first | (go_simp; done) | assumption)
  have f2_2 := bel_free hb2 (b := bx1) (o := 0) (by first | omega | (simp; done) | (simp; omega)) (by first | (go_simp; done) | assumption)
  have f2_3 := bel_free hb2 (b := bx1) (o := 1) (by first | omega | (simp; done) | (simp; omega)) (by first | (go_simp; done) | assumption)
  clear k1_0 k1_1 k1_2 k1_3 k1_4 k1_5 k1_6 k1_7 k1_8 k1_9 r1_0 r1_1 f1_0 f1_1 r1_4 r1_5
  rw [HST.out]
  go_wp2_with fail
  refine (isPlain_any ⟨op, dst, a, b, c, n⟩ _).mono ?_
  rintro e w3 ⟨rfl, hb3⟩
  have z3 := hb3.size
  (try simp at z3)
  have y3_0 : w.heap.size < w3.heap.size := (by omega)
  have y3_1 : w.heap.size + 1 < w3.heap.size := (by omega)
  have y3_2 : w.heap.size + 1 + 1 < w3.heap.size := (by omega)
  have y3_3 : bx1 < w3.heap.size := (by omega)
  have k3_0 := bel_keeps hb3 (b := w.heap.size) (o := 0) (v := .slice a1 rs.length c1) (by first | (go_simp; done) | assumption)
  have k3_1 := bel_keeps hb3 (b := w.heap.size) (o := 1) (v := .slice a2 os.length c2) (by first | (go_simp; done) | assumption)
  have k3_2 := bel_keeps hb3 (b := w.heap.size + 1) (o := 0) (v := .int .i64 op) (by first | (go_simp; done) | assumption)
  have k3_3 := bel_keeps hb3 (b := w.heap.size + 1) (o := 1) (v := .int .i64 dst) (by first | (go_simp; done) | assumption)
  have k3_4 := bel_keeps hb3 (b := w.heap.size + 1) (o := 2) (v := .int .i64 a) (by first | (go_simp; done) | assumption)
  have k3_5 := bel_keeps hb3 (b := w.heap.size + 1) (o := 3) (v := .int .i64 b) (by first | (go_simp; done) | assumption)
  have k3_6 := bel_keeps hb3 (b := w.heap.size + 1) (o := 4) (v := .int .i64 c) (by first | (go_simp; done) | assumption)
  have k3_7 := bel_keeps hb3 (b := w.heap.size + 1) (o := 5) (v := .int .i64 n) (by first | (go_simp; done) | assumption)
  have k3_8 := bel_keeps hb3 (b := w.heap.size + 1 + 1) (o := 0) (v := .slice none 0 0) (by first | (go_simp; done) | assumption)
  have k3_9 := bel_keeps hb3 (b := w.heap.size + 1 + 1) (o := 1) (v := .slice none 0 0) (by first | (go_simp; done) | assumption)
  have k3_10 := bel_keeps hb3 (b := bx1) (o := 0) (v := .slice (some ⟨g11, 0, none⟩) rs.length d11) (by first | (go_simp; done) | assumption)
  have k3_11 := bel_keeps hb3 (b := bx1) (o := 1) (v := .slice (some ⟨g21, 0, none⟩) os.length d21) (by first | (go_simp; done) | assumption)
  have f3_0 := bel_free hb3 (b := w.heap.size + 1 + 1) (o := 0) (by first | omega | (simp; done) | (simp; omega)) (by first | (go_simp; done) | assumption)
  have f3_1 := bel_free hb3 (b := w.heap.size + 1 + 1) (o := 1) (by first | omega | (simp; done) | (simp; omega)) (by first | (go_simp; done) | assumption)
  have f3_2 := bel_free hb3 (b := bx1) (o := 0) (by first | omega | (simp; done) | (simp; omega)) (by first | (go_simp; done) | assumption)
  have f3_3 := bel_free hb3 (b := bx1) (o := 1) (by first | omega | (simp; done) | (simp; omega)) (by first | (go_simp; done) | assumption)
  clear k2_0 k2_1 k2_2 k2_3 k2_4 k2_5 k2_6 k2_7 k2_8 k2_9 k2_10 k2_11 f2_0 f2_1 f2_2 f2_3
  rw [HP.out]
  go_wp2_with fail
  refine (iInputsOk_any rr _ _ _ hMr hml (HRI.out.below (by (repeat (first | with_reducible exact Below.refl _ _ | (with_reducible refine bel_next ?_ ?_ (by assumption)) | (with_reducible refine Below.alloc ?_ ?_ _) | (with_reducible refine Below.drew ?_) | (with_reducible refine below_drewN ?_ _) | (with_reducible refine Below.setCell ?_ ?_ _))) <;> (first | omega | (simp; done) | (simp; omega))))).mono ?_
  rintro e _ ⟨rfl, rfl⟩
  rw [HIN.out]
  obtain ⟨bba, ooa, haaa, hcca⟩ := (show RdC w3 a1 (I64 rs) from HR1.out.below (by (repeat (first | with_reducible exact Below.refl _ _ | (with_reducible refine bel_next ?_ ?_ (by assumption)) | (with_reducible refine Below.alloc ?_ ?_ _) | (with_reducible refine Below.drew ?_) | (with_reducible refine below_drewN ?_ _) | (with_reducible refine Below.setCell ?_ ?_ _))) <;> (first | omega | (simp; done) | (simp; omega)))).at a.toNat (by have := H8.out; omega)
  have cca := hcca a.toNat (by have := H8.out; omega)
  rw [← HQa.out] at cca
  have lta := lt_of_cell cca
  subst haaa
  clear hcca
  obtain ⟨bbb, oob, haab, hccb⟩ := (show RdC w3 (some ⟨bba, ooa, none⟩) (I64 rs) from HR1.out.below (by (repeat (first | with_reducible exact Below.refl _ _ | (with_reducible refine bel_next ?_ ?_ (by assumption)) | (with_reducible refine Below.alloc ?_ ?_ _) | (with_reducible refine Below.drew ?_) | (with_reducible refine below_drewN ?_ _) | (with_reducible refine Below.setCell ?_ ?_ _))) <;> (first | omega | (simp; done) | (simp; omega)))).at b.toNat (by have := H8.out; omega)
  simp only [Option.some.injEq, Addr.mk.injEq, and_true] at haab
  obtain ⟨rfl, rfl⟩ := haab
  have ccb := hccb b.toNat (by have := H8.out; omega)
  rw [← HQb.out] at ccb
  clear hccb
  have hab : bba < w.heap.size := by rcases HR1.out with h | ⟨b, o, h, hc⟩ <;> first | (have hz : rs.length = 0 := (by simpa using congrArg List.length h); have := H8.out; omega) | (simp only [Option.some.injEq, Addr.mk.injEq, and_true] at h; obtain ⟨rfl, rfl⟩ := h; exact lt_of_cell (hc 0 (by have := H8.out; simp; omega)))
  obtain ⟨ca, fa⟩ := (show Own w3 _ _ _ _ _ _ _ from hO1.out.later (by (repeat (first | with_reducible exact Kp.refl _ _ | (with_reducible refine Kp.rng ?_ (by assumption) ?_) | (with_reducible refine Kp.below ?_ (by assumption)) | (with_reducible refine Kp.grown ?_ (by assumption) ?_) | (with_reducible refine Kp.alloc ?_ _) | (with_reducible refine Kp.drew ?_) | (with_reducible refine Kp.drewN ?_ _) | (with_reducible refine Kp.setCell ?_ _ ?_))) <;> (first | omega | (simp; done) | (simp; omega)))).get dst.toNat (by simp; exact hdt)
  generalize (I64 rs)[dst.toNat]'_ = u at ca
  have nq0 : w.heap.size ≠ g11 := (by omega)
  have np0 : g11 ≠ w.heap.size := (by omega)
  have nq1 : w.heap.size + 1 ≠ g11 := (by omega)
  have np1 : g11 ≠ w.heap.size + 1 := (by omega)
  have nq2 : w.heap.size + 1 + 1 ≠ g11 := (by omega)
  have np2 : g11 ≠ w.heap.size + 1 + 1 := (by omega)
  have nq3 : bx1 ≠ g11 := (by omega)
  have np3 : g11 ≠ bx1 := (by omega)
  have nq4 : bba ≠ g11 := (by omega)
  have np4 : g11 ≠ bba := (by omega)
  go_wp2_with fail
  go_region_held3 (fun w' => w'.cell? ⟨w.heap.size + 1, 0, none⟩ = some (.int .i64 op) ∧ w'.cell? ⟨w.heap.size + 1, 1, none⟩ = some (.int .i64 dst) ∧ w'.cell? ⟨w.heap.size + 1, 2, none⟩ = some (.int .i64 a) ∧ w'.cell? ⟨w.heap.size + 1, 3, none⟩ = some (.int .i64 b) ∧ w'.cell? ⟨bx1, 0, none⟩ = some (.slice (some ⟨g11, 0, none⟩) rs.length d11) ∧ w'.cell? ⟨w.heap.size, 0, none⟩ = some (.slice (some ⟨bba, ooa, none⟩) rs.length c1) ∧ w'.cell? ⟨bba, ooa + a.toNat, none⟩ = some (.int .i64 xa) ∧ w'.cell? ⟨bba, ooa + b.toNat, none⟩ = some (.int .i64 xb))
    (first | go_keep)
    (first | (go_at_call 99; refine (iOperate_any op xa xb _).mono ?_; rintro e wq ⟨rfl, hbq⟩; rw [← HV2.out]; have zq := hbq.size; (try simp at zq); have yq_0 : w.heap.size < wq.heap.size := (by omega); have yq_1 : w.heap.size + 1 < wq.heap.size := (by omega); have yq_2 : w.heap.size + 1 + 1 < wq.heap.size := (by omega); have yq_3 : bx1 < wq.heap.size := (by omega); have kq_0 := bel_keeps hbq (b := w.heap.size) (o := 0) (v := .slice (some ⟨bba, ooa, none⟩) rs.length c1) (by first | (go_simp; done) | assumption); have kq_1 := bel_keeps hbq (b := w.heap.size) (o := 1) (v := .slice a2 os.length c2) (by first | (go_simp; done) | assumption); have kq_2 := bel_keeps hbq (b := w.heap.size + 1) (o := 0) (v := .int .i64 op) (by first | (go_simp; done) | assumption); have kq_3 := bel_keeps hbq (b := w.heap.size + 1) (o := 1) (v := .int .i64 dst) (by first | (go_simp; done) | assumption); have kq_4 := bel_keeps hbq (b := w.heap.size + 1) (o := 2) (v := .int .i64 a) (by first | (go_simp; done) | assumption); have kq_5 := bel_keeps hbq (b := w.heap.size + 1) (o := 3) (v := .int .i64 b) (by first | (go_simp; done) | assumption); have kq_6 := bel_keeps hbq (b := w.heap.size + 1) (o := 4) (v := .int .i64 c) (by first | (go_simp; done) | assumption); have kq_7 := bel_keeps hbq (b := w.heap.size + 1) (o := 5) (v := .int .i64 n) (by first | (go_simp; done) | assumption); have kq_8 := bel_keeps hbq (b := w.heap.size + 1 + 1) (o := 0) (v := .slice none 0 0) (by first | (go_simp; done) | assumption); have kq_9 := bel_keeps hbq (b := w.heap.size + 1 + 1) (o := 1) (v := .slice none 0 0) (by first | (go_simp; done) | assumption); have kq_10 := bel_keeps hbq (b := bx1) (o := 0) (v := .slice (some ⟨g11, 0, none⟩) rs.length d11) (by first | (go_simp; done) | assumption); have kq_11 := bel_keeps hbq (b := bx1) (o := 1) (v := .slice (some ⟨g21, 0, none⟩) os.length d21) (by first | (go_simp; done) | assumption); have kq_12 := bel_keeps hbq (b := bba) (o := ooa + a.toNat) (v := .int .i64 xa) (by first | (go_simp; done) | assumption); have kq_13 := bel_keeps hbq (b := bba) (o := ooa + b.toNat) (v := .int .i64 xb) (by first | (go_simp; done) | assumption); have kq_14 := bel_keeps hbq (b := g11) (o := dst.toNat) (v := u) (by first | (go_simp; done) | assumption); have fq_0 := bel_free hbq (b := w.heap.size + 1 + 1) (o := 0) (by first | omega | (simp; done) | (simp; omega)) (by first | (go_simp; done) | assumption); have fq_1 := bel_free hbq (b := w.heap.size + 1 + 1) (o := 1) (by first | omega | (simp; done) | (simp; omega)) (by first | (go_simp; done) | assumption); have fq_2 := bel_free hbq (b := bx1) (o := 0) (by first | omega | (simp; done) | (simp; omega)) (by first | (go_simp; done) | assumption); have fq_3 := bel_free hbq (b := bx1) (o := 1) (by first | omega | (simp; done) | (simp; omega)) (by first | (go_simp; done) | assumption); have fq_4 := bel_free hbq (b := g11) (o := dst.toNat) (by first | omega | (simp; done) | (simp; omega)) (by first | (go_simp; done) | assumption)))
  go_wp2_with fail
  refine bodyPost_ret (v := .agg #[.slice (some ⟨g11, 0, none⟩) (rs.length) d11, .slice (some ⟨g21, 0, none⟩) (os.length) d21]) (by simp [results, Try.results57, go_sem, kq_8, kq_9, fq_0, fq_1]) rfl ⟨g11, d11, g21, d21, by simp, ?_, ?_, r1_8, ?_⟩
  · have o := (((show Own wq _ _ _ _ _ _ _ from hO1.out.later (by (repeat (first | with_reducible exact Kp.refl _ _ | (with_reducible refine Kp.rng ?_ (by assumption) ?_) | (with_reducible refine Kp.below ?_ (by assumption)) | (with_reducible refine Kp.grown ?_ (by assumption) ?_) | (with_reducible refine Kp.alloc ?_ _) | (with_reducible refine Kp.drew ?_) | (with_reducible refine Kp.drewN ?_ _) | (with_reducible refine Kp.setCell ?_ _ ?_))) <;> (first | omega | (simp; done) | (simp; omega))))).put dst.toNat (.int .i64 v)).lo (lo' := w.heap.size) (by omega)
    rw [I64_set] at o
    simpa using o.later (by (repeat (first | with_reducible exact Kp.refl _ _ | (with_reducible refine Kp.rng ?_ (by assumption) ?_) | (with_reducible refine Kp.below ?_ (by assumption)) | (with_reducible refine Kp.grown ?_ (by assumption) ?_) | (with_reducible refine Kp.alloc ?_ _) | (with_reducible refine Kp.drew ?_) | (with_reducible refine Kp.drewN ?_ _) | (with_reducible refine Kp.setCell ?_ _ ?_))) <;> (first | omega | (simp; done) | (simp; omega)))
  · simpa using (hO2.out.lo (lo' := w.heap.size) (by omega)).later (by (repeat (first | with_reducible exact Kp.refl _ _ | (with_reducible refine Kp.rng ?_ (by assumption) ?_) | (with_reducible refine Kp.below ?_ (by assumption)) | (with_reducible refine Kp.grown ?_ (by assumption) ?_) | (with_reducible refine Kp.alloc ?_ _) | (with_reducible refine Kp.drew ?_) | (with_reducible refine Kp.drewN ?_ _) | (with_reducible refine Kp.setCell ?_ _ ?_))) <;> (first | omega | (simp; done) | (simp; omega)))
  · exact (by (repeat (first | with_reducible exact Below.refl _ _ | (with_reducible refine bel_next ?_ ?_ (by assumption)) | (with_reducible refine Below.alloc ?_ ?_ _) | (with_reducible refine Below.drew ?_) | (with_reducible refine below_drewN ?_ _) | (with_reducible refine Below.setCell ?_ ?_ _))) <;> (first | omega | (simp; done) | (simp; omega)))
end Go.Proofs.Ytfeffofoofmgcaa

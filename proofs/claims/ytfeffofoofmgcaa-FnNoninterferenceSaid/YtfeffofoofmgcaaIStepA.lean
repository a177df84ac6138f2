/- StepState: ino1, ino2, ino3, iconst. -/
import Derived.Test.YtfeffofoofmgcaaStepS
import Derived.StillTailTactics
import Derived.Deep.RegionLaw
namespace Go.Proofs.Ytfeffofoofmgcaa
open Go.RowKit
set_option linter.unusedVariables false
set_option linter.unusedSimpArgs false

set_option maxRecDepth 20000 in
set_option maxHeartbeats 8000000 in
theorem iStep_no1 (rs os : List Int) (a1 a2 : Option Addr) (c1 c2 : Nat) (op dst a b c n : Int) (rr : List Rw) (ai : Option Addr) (ci : Nat) (w : World) (hm1 : rs.length ≤ 1048576) (hm2 : os.length ≤ 1048576) (hr1 : RdC w a1 (I64 rs)) (hr2 : RdC w a2 (I64 os)) (hmr : rr.length ≤ 1048576) (hml : rowsLe rr) (hri : RdR w ai rr) (h1 : stateOk rs os = false) :
    Calls Try.prog 57 #[.agg #[.slice a1 rs.length c1, .slice a2 os.length c2], stV ⟨op, dst, a, b, c, n⟩, .slice ai rr.length ci] w fun e w' => ∃ g1 d1 g2 d2, e = .returned (.agg #[.slice (some ⟨g1, 0, none⟩) (stepRegs rs os ⟨op, dst, a, b, c, n⟩ (rr.map Rw.xs)).length d1, .slice (some ⟨g2, 0, none⟩) (stepOuts rs os ⟨op, dst, a, b, c, n⟩ (rr.map Rw.xs)).length d2]) ∧
      Own w' w.heap.size 3 1 (some ⟨g1, 0, none⟩) (stepRegs rs os ⟨op, dst, a, b, c, n⟩ (rr.map Rw.xs)).length d1 (I64 (stepRegs rs os ⟨op, dst, a, b, c, n⟩ (rr.map Rw.xs))) ∧ Own w' w.heap.size 3 1 (some ⟨g2, 0, none⟩) (stepOuts rs os ⟨op, dst, a, b, c, n⟩ (rr.map Rw.xs)).length d2 (I64 (stepOuts rs os ⟨op, dst, a, b, c, n⟩ (rr.map Rw.xs))) ∧ g1 < g2 ∧ Below w.heap.size w w' := by
  have hM1 : rs.length ≤ maxLen := by unfold maxLen; omega
  have hM2 : os.length ≤ maxLen := by unfold maxLen; omega
  have hMr : rr.length ≤ maxLen := by unfold maxLen; omega
  have HN1 := Lib.hid (rd_none hr1)
  have HN2 := Lib.hid (rd_none hr2)
  have HR1 := Lib.hid hr1
  have HR2 := Lib.hid hr2
  have HRI := Lib.hid hri
  clear hr1 hr2 hri
  have hB : stepB ⟨op, dst, a, b, c, n⟩ rs os (rr.map Rw.xs) = false := by simp [stepB, h1]
  have e1 : (stepRegs rs os ⟨op, dst, a, b, c, n⟩ (rr.map Rw.xs)) = rs := by simp [stepRegs, hB]
  have e2 : (stepOuts rs os ⟨op, dst, a, b, c, n⟩ (rr.map Rw.xs)) = os := by simp [stepOuts, hB]
  rw [e1, e2]
  clear hB e1 e2
  have HST := Lib.hid h1
  clear h1
  unfold stV
  go_enter Try.func57, Try.ntmps57
  go_wp2_with fail
  obtain ⟨w0, hw0⟩ : ∃ W, W = ((w.alloc (.cells #[.slice a1 rs.length c1, .slice a2 os.length c2] 57)).alloc (.cells #[.int .i64 op, .int .i64 dst, .int .i64 a, .int .i64 b, .int .i64 c, .int .i64 n] 38)).alloc (.cells #[.slice none 0 0, .slice none 0 0] 57) := ⟨_, rfl⟩
  rw [← hw0]
  have hb0 : Below w.heap.size w w0 := by rw [hw0]; exact (by (repeat (first | with_reducible exact Below.refl _ _ | (with_reducible refine bel_next ?_ ?_ (by assumption)) | (with_reducible refine Below.alloc ?_ ?_ _) | (with_reducible refine Below.drew ?_) | (with_reducible refine below_drewN ?_ _) | (with_reducible refine Below.setCell ?_ ?_ _))) <;> (first | omega | (simp; done) | (simp; omega)))
  have z0 : w.heap.size + 1 + 1 < w0.heap.size := by rw [hw0]; simp
  have k0_0 : w0.cell? ⟨w.heap.size, 0, none⟩ = some (.slice a1 rs.length c1) := by rw [hw0]; go_simp
  have k0_1 : w0.cell? ⟨w.heap.size, 1, none⟩ = some (.slice a2 os.length c2) := by rw [hw0]; go_simp
  have k0_2 : w0.cell? ⟨w.heap.size + 1, 0, none⟩ = some (.int .i64 op) := by rw [hw0]; go_simp
  have k0_3 : w0.cell? ⟨w.heap.size + 1, 1, none⟩ = some (.int .i64 dst) := by rw [hw0]; go_simp
  have k0_4 : w0.cell? ⟨w.heap.size + 1, 2, none⟩ = some (.int .i64 a) := by rw [hw0]; go_simp
  have k0_5 : w0.cell? ⟨w.heap.size + 1, 3, none⟩ = some (.int .i64 b) := by rw [hw0]; go_simp
  have k0_6 : w0.cell? ⟨w.heap.size + 1, 4, none⟩ = some (.int .i64 c) := by rw [hw0]; go_simp
  have k0_7 : w0.cell? ⟨w.heap.size + 1, 5, none⟩ = some (.int .i64 n) := by rw [hw0]; go_simp
  have k0_8 : w0.cell? ⟨w.heap.size + 1 + 1, 0, none⟩ = some (.slice none 0 0) := by rw [hw0]; go_simp
  have k0_9 : w0.cell? ⟨w.heap.size + 1 + 1, 1, none⟩ = some (.slice none 0 0) := by rw [hw0]; go_simp
  have f0_0 : w0.frozen? ⟨w.heap.size + 1 + 1, 0, none⟩ = false := by rw [hw0]; go_simp
  have f0_1 : w0.frozen? ⟨w.heap.size + 1 + 1, 1, none⟩ = false := by rw [hw0]; go_simp
  clear hw0
  go_wp2_with fail
  apply wp_share5 (F := fun W bx1 g11 d11 g21 d21 => Below w0.heap.size w0 W ∧ W.cell? ⟨bx1, 0, none⟩ = some (.slice (some ⟨g11, 0, none⟩) rs.length d11) ∧ W.cell? ⟨bx1, 1, none⟩ = some (.slice (some ⟨g21, 0, none⟩) os.length d21) ∧ w0.heap.size ≤ bx1 ∧ bx1 < W.heap.size ∧ W.frozen? ⟨bx1, 0, none⟩ = false ∧ W.frozen? ⟨bx1, 1, none⟩ = false ∧ Own W w0.heap.size 3 1 (some ⟨g11, 0, none⟩) rs.length d11 (I64 rs) ∧ Own W w0.heap.size 3 1 (some ⟨g21, 0, none⟩) os.length d21 (I64 os) ∧ g11 < g21 ∧ bx1 ≠ g11 ∧ bx1 ≠ g21 ∧ True)
  case h1 =>
    have a0_1 : w0.heap.size ≠ 0 ∨ True := .inr trivial
    have n1_32 : w.heap.size ≠ w0.heap.size := (by omega)
    have n1_32a : w0.heap.size ≠ w.heap.size := (by omega)
    have n1_34 : w.heap.size + 1 ≠ w0.heap.size := (by omega)
    have n1_34a : w0.heap.size ≠ w.heap.size + 1 := (by omega)
    have n1_36 : w.heap.size + 1 + 1 ≠ w0.heap.size := (by omega)
    have n1_36a : w0.heap.size ≠ w.heap.size + 1 + 1 := (by omega)
    go_region_held3 (fun w' => w'.cell? ⟨w.heap.size, 0, none⟩ = some (.slice a1 rs.length c1) ∧ w'.cell? ⟨w.heap.size, 1, none⟩ = some (.slice a2 os.length c2))
      (first | go_keep)
      (first | (go_at_call 90; refine (ints_any rs a1 c1 _ (by omega) (HR1.out.below (by (repeat (first | with_reducible exact Below.refl _ _ | (with_reducible refine bel_next ?_ ?_ (by assumption)) | (with_reducible refine Below.alloc ?_ ?_ _) | (with_reducible refine Below.drew ?_) | (with_reducible refine below_drewN ?_ _) | (with_reducible refine Below.setCell ?_ ?_ _))) <;> (first | omega | (simp; done) | (simp; omega))))).mono ?_; rintro e v1 ⟨g11, d11, rfl, ho1, _, _, hv1⟩; have zv1 := hv1.size; (try simp at zv1); have ge1 := ho1.ge; (try simp at ge1); have yv1_0 : w.heap.size < v1.heap.size := (by omega); have nv1_0 : w.heap.size ≠ v1.heap.size := (by omega); have mv1_0 : v1.heap.size ≠ w.heap.size := (by omega); have kv1_0 := bel_keeps hv1 (b := w.heap.size) (o := 0) (v := .slice a1 rs.length c1) (by first | (go_simp; done) | assumption); have kv1_1 := bel_keeps hv1 (b := w.heap.size) (o := 1) (v := .slice a2 os.length c2) (by first | (go_simp; done) | assumption); (try have yc1_0 : w0.heap.size < v1.heap.size := (by omega)); (try have bc1_00 := bel_keeps hv1 (b := w0.heap.size) (o := 0) (v := .slice none 0 0) (by first | (go_simp; done) | assumption)); (try have qc1_00 := bel_free hv1 (b := w0.heap.size) (o := 0) (by first | omega | (simp; done) | (simp; omega)) (by first | (go_simp; done) | assumption)); (try have bc1_01 := bel_keeps hv1 (b := w0.heap.size) (o := 1) (v := .slice none 0 0) (by first | (go_simp; done) | assumption)); (try have qc1_01 := bel_free hv1 (b := w0.heap.size) (o := 1) (by first | omega | (simp; done) | (simp; omega)) (by first | (go_simp; done) | assumption))) | (go_at_call 90; refine (ints_any os a2 c2 _ (by omega) (HR2.out.below (by (repeat (first | with_reducible exact Below.refl _ _ | (with_reducible refine bel_next ?_ ?_ (by assumption)) | (with_reducible refine Below.alloc ?_ ?_ _) | (with_reducible refine Below.drew ?_) | (with_reducible refine below_drewN ?_ _) | (with_reducible refine Below.setCell ?_ ?_ _))) <;> (first | omega | (simp; done) | (simp; omega))))).mono ?_; rintro e v2 ⟨g21, d21, rfl, ho2, _, _, hv2⟩; have zv2 := hv2.size; (try simp at zv2); have ge2 := ho2.ge; (try simp at ge2); have yv2_0 : w.heap.size < v2.heap.size := (by omega); have nv2_0 : w.heap.size ≠ v2.heap.size := (by omega); have mv2_0 : v2.heap.size ≠ w.heap.size := (by omega); have kv2_0 := bel_keeps hv2 (b := w.heap.size) (o := 0) (v := .slice a1 rs.length c1) (by first | (go_simp; done) | assumption); have kv2_1 := bel_keeps hv2 (b := w.heap.size) (o := 1) (v := .slice a2 os.length c2) (by first | (go_simp; done) | assumption); (try have yc2_0 : w0.heap.size < v2.heap.size := (by omega)); (try have bc2_00 := bel_keeps hv2 (b := w0.heap.size) (o := 0) (v := .slice none 0 0) (by first | (go_simp; done) | assumption)); (try have qc2_00 := bel_free hv2 (b := w0.heap.size) (o := 0) (by first | omega | (simp; done) | (simp; omega)) (by first | (go_simp; done) | assumption)); (try have bc2_01 := bel_keeps hv2 (b := w0.heap.size) (o := 1) (v := .slice none 0 0) (by first | (go_simp; done) | assumption)); (try have qc2_01 := bel_free hv2 (b := w0.heap.size) (o := 1) (by first | omega | (simp; done) | (simp; omega)) (by first | (go_simp; done) | assumption)); (try have yc2_1 : v1.heap.size < v2.heap.size := (by omega)); (try have bc2_10 := bel_keeps hv2 (b := v1.heap.size) (o := 0) (v := .slice none 0 0) (by first | (go_simp; done) | assumption)); (try have qc2_10 := bel_free hv2 (b := v1.heap.size) (o := 0) (by first | omega | (simp; done) | (simp; omega)) (by first | (go_simp; done) | assumption)); (try have bc2_11 := bel_keeps hv2 (b := v1.heap.size) (o := 1) (v := .slice none 0 0) (by first | (go_simp; done) | assumption)); (try have qc2_11 := bel_free hv2 (b := v1.heap.size) (o := 1) (by first | omega | (simp; done) | (simp; omega)) (by first | (go_simp; done) | assumption))))
    ·
      refine ⟨rfl, v2.heap.size, g11, d11, g21, d21, ⟨(by (repeat (first | with_reducible exact Below.refl _ _ | (with_reducible refine bel_next ?_ ?_ (by assumption)) | (with_reducible refine Below.alloc ?_ ?_ _) | (with_reducible refine Below.drew ?_) | (with_reducible refine below_drewN ?_ _) | (with_reducible refine Below.setCell ?_ ?_ _))) <;> (first | omega | (simp; done) | (simp; omega))), (by first | (go_simp; done) | assumption), (by first | (go_simp; done) | assumption), (by first | omega | (simp; done) | (simp; omega)), (by first | omega | (simp [World.setCell]; done) | (simp [World.setCell]; omega)), (by first | (go_simp; done) | assumption), (by first | (go_simp; done) | assumption), (ho1.lo (by first | omega | (simp; done) | (simp; omega))).later (by (repeat (first | with_reducible exact Kp.refl _ _ | (with_reducible refine Kp.rng ?_ (by assumption) ?_) | (with_reducible refine Kp.below ?_ (by assumption)) | (with_reducible refine Kp.grown ?_ (by assumption) ?_) | (with_reducible refine Kp.alloc ?_ _) | (with_reducible refine Kp.drew ?_) | (with_reducible refine Kp.drewN ?_ _) | (with_reducible refine Kp.setCell ?_ _ ?_))) <;> (first | omega | (simp; done) | (simp; omega))), (ho2.lo (by first | omega | (simp; done) | (simp; omega))).later (by (repeat (first | with_reducible exact Kp.refl _ _ | (with_reducible refine Kp.rng ?_ (by assumption) ?_) | (with_reducible refine Kp.below ?_ (by assumption)) | (with_reducible refine Kp.grown ?_ (by assumption) ?_) | (with_reducible refine Kp.alloc ?_ _) | (with_reducible refine Kp.drew ?_) | (with_reducible refine Kp.drewN ?_ _) | (with_reducible refine Kp.setCell ?_ _ ?_))) <;> (first | omega | (simp; done) | (simp; omega))), (by first | omega | (simp; done) | (simp; omega)), (by first | omega | (simp; done) | (simp; omega)), (by first | omega | (simp; done) | (simp; omega)), trivial⟩, ?_⟩
      generalize (v2.alloc (.cells #[.slice (some ⟨g11, 0, none⟩) rs.length d11, .slice (some ⟨g21, 0, none⟩) os.length d21] 57)) = W
      generalize v2.heap.size = bx
      rfl
    ·
      refine ⟨rfl, v1.heap.size, g11, d11, g21, d21, ⟨(by (repeat (first | with_reducible exact Below.refl _ _ | (with_reducible refine bel_next ?_ ?_ (by assumption)) | (with_reducible refine Below.alloc ?_ ?_ _) | (with_reducible refine Below.drew ?_) | (with_reducible refine below_drewN ?_ _) | (with_reducible refine Below.setCell ?_ ?_ _))) <;> (first | omega | (simp; done) | (simp; omega))), (by first | (go_simp; done) | assumption), (by first | (go_simp; done) | assumption), (by first | omega | (simp; done) | (simp; omega)), (by first | omega | (simp [World.setCell]; done) | (simp [World.setCell]; omega)), (by first | (go_simp; done) | assumption), (by first | (go_simp; done) | assumption), (ho1.lo (by first | omega | (simp; done) | (simp; omega))).later (by (repeat (first | with_reducible exact Kp.refl _ _ | (with_reducible refine Kp.rng ?_ (by assumption) ?_) | (with_reducible refine Kp.below ?_ (by assumption)) | (with_reducible refine Kp.grown ?_ (by assumption) ?_) | (with_reducible refine Kp.alloc ?_ _) | (with_reducible refine Kp.drew ?_) | (with_reducible refine Kp.drewN ?_ _) | (with_reducible refine Kp.setCell ?_ _ ?_))) <;> (first | omega | (simp; done) | (simp; omega))), (ho2.lo (by first | omega | (simp; done) | (simp; omega))).later (by (repeat (first | with_reducible exact Kp.refl _ _ | (with_reducible refine Kp.rng ?_ (by assumption) ?_) | (with_reducible refine Kp.below ?_ (by assumption)) | (with_reducible refine Kp.grown ?_ (by assumption) ?_) | (with_reducible refine Kp.alloc ?_ _) | (with_reducible refine Kp.drew ?_) | (with_reducible refine Kp.drewN ?_ _) | (with_reducible refine Kp.setCell ?_ _ ?_))) <;> (first | omega | (simp; done) | (simp; omega))), (by first | omega | (simp; done) | (simp; omega)), (by first | omega | (simp; done) | (simp; omega)), (by first | omega | (simp; done) | (simp; omega)), trivial⟩, ?_⟩
      generalize (World.setCell (World.setCell v2 ⟨v1.heap.size, 0, none⟩ (.slice (some ⟨g11, 0, none⟩) rs.length d11)) ⟨v1.heap.size, 1, none⟩ (.slice (some ⟨g21, 0, none⟩) os.length d21)) = W
      generalize v1.heap.size = bx
      rfl
    ·
      refine ⟨rfl, w0.heap.size, g11, d11, g21, d21, ⟨(by (repeat (first | with_reducible exact Below.refl _ _ | (with_reducible refine bel_next ?_ ?_ (by assumption)) | (with_reducible refine Below.alloc ?_ ?_ _) | (with_reducible refine Below.drew ?_) | (with_reducible refine below_drewN ?_ _) | (with_reducible refine Below.setCell ?_ ?_ _))) <;> (first | omega | (simp; done) | (simp; omega))), (by first | (go_simp; done) | assumption), (by first | (go_simp; done) | assumption), (by first | omega | (simp; done) | (simp; omega)), (by first | omega | (simp [World.setCell]; done) | (simp [World.setCell]; omega)), (by first | (go_simp; done) | assumption), (by first | (go_simp; done) | assumption), (ho1.lo (by first | omega | (simp; done) | (simp; omega))).later (by (repeat (first | with_reducible exact Kp.refl _ _ | (with_reducible refine Kp.rng ?_ (by assumption) ?_) | (with_reducible refine Kp.below ?_ (by assumption)) | (with_reducible refine Kp.grown ?_ (by assumption) ?_) | (with_reducible refine Kp.alloc ?_ _) | (with_reducible refine Kp.drew ?_) | (with_reducible refine Kp.drewN ?_ _) | (with_reducible refine Kp.setCell ?_ _ ?_))) <;> (first | omega | (simp; done) | (simp; omega))), (ho2.lo (by first | omega | (simp; done) | (simp; omega))).later (by (repeat (first | with_reducible exact Kp.refl _ _ | (with_reducible refine Kp.rng ?_ (by assumption) ?_) | (with_reducible refine Kp.below ?_ (by assumption)) | (with_reducible refine Kp.grown ?_ (by assumption) ?_) | (with_reducible refine Kp.alloc ?_ _) | (with_reducible refine Kp.drew ?_) | (with_reducible refine Kp.drewN ?_ _) | (with_reducible refine Kp.setCell ?_ _ ?_))) <;> (first | omega | (simp; done) | (simp; omega))), (by first | omega | (simp; done) | (simp; omega)), (by first | omega | (simp; done) | (simp; omega)), (by first | omega | (simp; done) | (simp; omega)), trivial⟩, ?_⟩
      generalize (World.setCell (World.setCell v2 ⟨w0.heap.size, 0, none⟩ (.slice (some ⟨g11, 0, none⟩) rs.length d11)) ⟨w0.heap.size, 1, none⟩ (.slice (some ⟨g21, 0, none⟩) os.length d21)) = W
      generalize w0.heap.size = bx
      rfl
  rintro w1 bx1 g11 d11 g21 d21 ⟨hb1, r1_0, r1_1, r1_2, r1_3, r1_4, r1_5, r1_6, r1_7, r1_8, r1_9, r1_10, r1_11⟩
  have z1 := hb1.size
  (try simp at z1)
  have y1_0 : w.heap.size < w1.heap.size := (by omega)
  have y1_1 : w.heap.size + 1 < w1.heap.size := (by omega)
  have y1_2 : w.heap.size + 1 + 1 < w1.heap.size := (by omega)
  have k1_0 := bel_keeps hb1 (b := w.heap.size) (o := 0) (v := .slice a1 rs.length c1) (by first | (go_simp; done) | assumption)
  have k1_1 := bel_keeps hb1 (b := w.heap.size) (o := 1) (v := .slice a2 os.length c2) (by first | (go_simp; done) | assumption)
  have k1_2 := bel_keeps hb1 (b := w.heap.size + 1) (o := 0) (v := .int .i64 op) (by first | (go_simp; done) | assumption)
  have k1_3 := bel_keeps hb1 (b := w.heap.size + 1) (o := 1) (v := .int .i64 dst) (by first | (go_simp; done) | assumption)
  have k1_4 := bel_keeps hb1 (b := w.heap.size + 1) (o := 2) (v := .int .i64 a) (by first | (go_simp; done) | assumption)
  have k1_5 := bel_keeps hb1 (b := w.heap.size + 1) (o := 3) (v := .int .i64 b) (by first | (go_simp; done) | assumption)
  have k1_6 := bel_keeps hb1 (b := w.heap.size + 1) (o := 4) (v := .int .i64 c) (by first | (go_simp; done) | assumption)
  have k1_7 := bel_keeps hb1 (b := w.heap.size + 1) (o := 5) (v := .int .i64 n) (by first | (go_simp; done) | assumption)
  have k1_8 := bel_keeps hb1 (b := w.heap.size + 1 + 1) (o := 0) (v := .slice none 0 0) (by first | (go_simp; done) | assumption)
  have k1_9 := bel_keeps hb1 (b := w.heap.size + 1 + 1) (o := 1) (v := .slice none 0 0) (by first | (go_simp; done) | assumption)
  have f1_0 := bel_free hb1 (b := w.heap.size + 1 + 1) (o := 0) (by first | omega | (simp; done) | (simp; omega)) (by first | (go_simp; done) | assumption)
  have f1_1 := bel_free hb1 (b := w.heap.size + 1 + 1) (o := 1) (by first | omega | (simp; done) | (simp; omega)) (by first | (go_simp; done) | assumption)
  clear k0_0 k0_1 k0_2 k0_3 k0_4 k0_5 k0_6 k0_7 k0_8 k0_9 f0_0 f0_1
  have hO1 := Lib.hid r1_6
  have hO2 := Lib.hid r1_7
  have lg1 := r1_6.ge
  have lg2 := r1_7.ge
  clear r1_6 r1_7
  go_wp2_with fail
  refine (iStateOk_any rs os _ _ _ _ _ hM1 hM2 (HR1.out.below (by (repeat (first | with_reducible exact Below.refl _ _ | (with_reducible refine bel_next ?_ ?_ (by assumption)) | (with_reducible refine Below.alloc ?_ ?_ _) | (with_reducible refine Below.drew ?_) | (with_reducible refine below_drewN ?_ _) | (with_reducible refine Below.setCell ?_ ?_ _))) <;> (first | omega | (simp; done) | (simp; omega)))) (HR2.out.below (by (repeat (first | with_reducible exact Below.refl _ _ | (with_reducible refine bel_next ?_ ?_ (by assumption)) | (with_reducible refine Below.alloc ?_ ?_ _) | (with_reducible refine Below.drew ?_) | (with_reducible refine below_drewN ?_ _) | (with_reducible refine Below.setCell ?_ ?_ _))) <;> (first | omega | (simp; done) | (simp; omega))))).mono ?_
  rintro e w2 ⟨rfl, hb2⟩
  have z2 := hb2.size
  (try simp at z2)
  have y2_0 : w.heap.size < w2.heap.size := (by omega)
  have y2_1 : w.heap.size + 1 < w2.heap.size := (by omega)
  have y2_2 : w.heap.size + 1 + 1 < w2.heap.size := (by omega)
  have y2_3 : bx1 < w2.heap.size := (by omega)
  have k2_0 := bel_keeps hb2 (b := w.heap.size) (o := 0) (v := .slice a1 rs.length c1) (by first | (go_simp; done) | assumption)
  have k2_1 := bel_keeps hb2 (b := w.heap.size) (o := 1) (v := .slice a2 os.length c2) (by first | (go_simp; done) | assumption)
  have k2_2 := bel_keeps hb2 (b := w.heap.size + 1) (o := 0) (v := .int .i64 op) (by first | (go_simp; done) | assumption)
  have k2_3 := bel_keeps hb2 (b := w.heap.size + 1) (o := 1) (v := .int .i64 dst) (by first | (go_simp; done) | assumption)
  have k2_4 := bel_keeps hb2 (b := w.heap.size + 1) (o := 2) (v := .int .i64 a) (by first | (go_simp; done) | assumption)
  have k2_5 := bel_keeps hb2 (b := w.heap.size + 1) (o := 3) (v := .int .i64 b) (by first | (go_simp; done) | assumption)
  have k2_6 := bel_keeps hb2 (b := w.heap.size + 1) (o := 4) (v := .int .i64 c) (by first | (go_simp; done) | assumption)
  have k2_7 := bel_keeps hb2 (b := w.heap.size + 1) (o := 5) (v := .int .i64 n) (by first | (go_simp; done) | assumption)
  have k2_8 := bel_keeps hb2 (b := w.heap.size + 1 + 1) (o := 0) (v := .slice none 0 0) (by first | (go_simp; done) | assumption)
  have k2_9 := bel_keeps hb2 (b := w.heap.size + 1 + 1) (o := 1) (v := .slice none 0 0) (by first | (go_simp; done) | assumption)
  have k2_10 := bel_keeps hb2 (b := bx1) (o := 0) (v := .slice (some ⟨g11, 0, none⟩) rs.length d11) (by first | (go_simp; done) | assumption)
  have k2_11 := bel_keeps hb2 (b := bx1) (o := 1) (v := .slice (some ⟨g21, 0, none⟩) os.length d21) (by first | (go_simp; done) | assumption)
  have f2_0 := bel_free hb2 (b := w.heap.size + 1 + 1) (o := 0) (by first | omega | (simp; done) | (simp; omega)) (by first | (go_simp; done) | assumption)
  have f2_1 := bel_free hb2 (b := w.heap.size + 1 + 1) (o := 1) (by first | omega | (simp; done) | (simp; omega)) (by first | (go_simp; done) | assumption)
  have f2_2 := bel_free hb2 (b := bx1) (o := 0) (by first | omega | (simp; done) | (simp; omega)) (by first | (go_simp; done) | assumption)
  have f2_3 := bel_free hb2 (b := bx1) (o := 1) (by first | omega | (simp; done) | (simp; omega)) (by first | (go_simp; done) | assumption)
  clear k1_0 k1_1 k1_2 k1_3 k1_4 k1_5 k1_6 k1_7 k1_8 k1_9 r1_0 r1_1 f1_0 f1_1 r1_4 r1_5
  rw [HST.out]
  go_wp2_with fail
  refine bodyPost_ret (v := .agg #[.slice (some ⟨g11, 0, none⟩) (rs.length) d11, .slice (some ⟨g21, 0, none⟩) (os.length) d21]) (by simp [results, Try.results57, go_sem, k2_8, k2_9, f2_0, f2_1]) rfl ⟨g11, d11, g21, d21, by simp, ?_, ?_, r1_8, ?_⟩
  · simpa using (hO1.out.lo (lo' := w.heap.size) (by omega)).later (by (repeat (first | with_reducible exact Kp.refl _ _ | (with_reducible refine Kp.rng ?_ (by assumption) ?_) | (with_reducible refine Kp.below ?_ (by assumption)) | (with_reducible refine Kp.grown ?_ (by assumption) ?_) | (with_reducible refine Kp.alloc ?_ _) | (with_reducible refine Kp.drew ?_) | (with_reducible refine Kp.drewN ?_ _) | (with_reducible refine Kp.setCell ?_ _ ?_))) <;> (first | omega | (simp; done) | (simp; omega)))
  · simpa using (hO2.out.lo (lo' := w.heap.size) (by omega)).later (by (repeat (first | with_reducible exact Kp.refl _ _ | (with_reducible refine Kp.rng ?_ (by assumption) ?_) | (with_reducible refine Kp.below ?_ (by assumption)) | (with_reducible refine Kp.grown ?_ (by assumption) ?_) | (with_reducible refine Kp.alloc ?_ _) | (with_reducible refine Kp.drew ?_) | (with_reducible refine Kp.drewN ?_ _) | (with_reducible refine Kp.setCell ?_ _ ?_))) <;> (first | omega | (simp; done) | (simp; omega)))
  · exact (by (repeat (first | with_reducible exact Below.refl _ _ | (with_reducible refine bel_next ?_ ?_ (by assumption)) | (with_reducible refine Below.alloc ?_ ?_ _) | (with_reducible refine Below.drew ?_) | (with_reducible refine below_drewN ?_ _) | (with_reducible refine Below.setCell ?_ ?_ _))) <;> (first | omega | (simp; done) | (simp; omega)))
set_option maxRecDepth 20000 in
set_option maxHeartbeats 8000000 in
theorem iStep_no2 (rs os : List Int) (a1 a2 : Option Addr) (c1 c2 : Nat) (op dst a b c n : Int) (rr : List Rw) (ai : Option Addr) (ci : Nat) (w : World) (hm1 : rs.length ≤ 1048576) (hm2 : os.length ≤ 1048576) (hr1 : RdC w a1 (I64 rs)) (hr2 : RdC w a2 (I64 os)) (hmr : rr.length ≤ 1048576) (hml : rowsLe rr) (hri : RdR w ai rr) (h1 : stateOk rs os = true) (h2 : plainB ⟨op, dst, a, b, c, n⟩ = false) :
    Calls Try.prog 57 #[.agg #[.slice a1 rs.length c1, .slice a2 os.length c2], stV ⟨op, dst, a, b, c, n⟩, .slice ai rr.length ci] w fun e w' => ∃ g1 d1 g2 d2, e = .returned (.agg #[.slice (some ⟨g1, 0, none⟩) (stepRegs rs os ⟨op, dst, a, b, c, n⟩ (rr.map Rw.xs)).length d1, .slice (some ⟨g2, 0, none⟩) (stepOuts rs os ⟨op, dst, a, b, c, n⟩ (rr.map Rw.xs)).length d2]) ∧
      Own w' w.heap.size 3 1 (some ⟨g1, 0, none⟩) (stepRegs rs os ⟨op, dst, a, b, c, n⟩ (rr.map Rw.xs)).length d1 (I64 (stepRegs rs os ⟨op, dst, a, b, c, n⟩ (rr.map Rw.xs))) ∧ Own w' w.heap.size 3 1 (some ⟨g2, 0, none⟩) (stepOuts rs os ⟨op, dst, a, b, c, n⟩ (rr.map Rw.xs)).length d2 (I64 (stepOuts rs os ⟨op, dst, a, b, c, n⟩ (rr.map Rw.xs))) ∧ g1 < g2 ∧ Below w.heap.size w w' := by
  have hM1 : rs.length ≤ maxLen := by unfold maxLen; omega
  have hM2 : os.length ≤ maxLen := by unfold maxLen; omega
  have hMr : rr.length ≤ maxLen := by unfold maxLen; omega
  have HN1 := Lib.hid (rd_none hr1)
  have HN2 := Lib.hid (rd_none hr2)
  have HR1 := Lib.hid hr1
  have HR2 := Lib.hid hr2
  have HRI := Lib.hid hri
  clear hr1 hr2 hri
  have hB : stepB ⟨op, dst, a, b, c, n⟩ rs os (rr.map Rw.xs) = false := by simp [stepB, h2]
  have e1 : (stepRegs rs os ⟨op, dst, a, b, c, n⟩ (rr.map Rw.xs)) = rs := by simp [stepRegs, hB]
  have e2 : (stepOuts rs os ⟨op, dst, a, b, c, n⟩ (rr.map Rw.xs)) = os := by simp [stepOuts, hB]
  rw [e1, e2]
  clear hB e1 e2
  have HST := Lib.hid h1
  have HP := Lib.hid h2
  clear h1 h2
  unfold stV
  go_enter Try.func57, Try.ntmps57
  go_wp2_with fail
  obtain ⟨w0, hw0⟩ : ∃ W, W = ((w.alloc (.cells #[.slice a1 rs.length c1, .slice a2 os.length c2] 57)).alloc (.cells #[.int .i64 op, .int .i64 dst, .int .i64 a, .int .i64 b, .int .i64 c, .int .i64 n] 38)).alloc (.cells #[.slice none 0 0, .slice none 0 0] 57) := ⟨_, rfl⟩
  rw [← hw0]
  have hb0 : Below w.heap.size w w0 := by rw [hw0]; exact (by (repeat (first | with_reducible exact Below.refl _ _ | (with_reducible refine bel_next ?_ ?_ (by assumption)) | (with_reducible refine Below.alloc ?_ ?_ _) | (with_reducible refine Below.drew ?_) | (with_reducible refine below_drewN ?_ _) | (with_reducible refine Below.setCell ?_ ?_ _))) <;> (first | omega | (simp; done) | (simp; omega)))
  have z0 : w.heap.size + 1 + 1 < w0.heap.size := by rw [hw0]; simp
  have k0_0 : w0.cell? ⟨w.heap.size, 0, none⟩ = some (.slice a1 rs.length c1) := by rw [hw0]; go_simp
  have k0_1 : w0.cell? ⟨w.heap.size, 1, none⟩ = some (.slice a2 os.length c2) := by rw [hw0]; go_simp
  have k0_2 : w0.cell? ⟨w.heap.size + 1, 0, none⟩ = some (.int .i64 op) := by rw [hw0]; go_simp
  have k0_3 : w0.cell? ⟨w.heap.size + 1, 1, none⟩ = some (.int .i64 dst) := by rw [hw0]; go_simp
  have k0_4 : w0.cell? ⟨w.heap.size + 1, 2, none⟩ = some (.int .i64 a) := by rw [hw0]; go_simp
  have k0_5 : w0.cell? ⟨w.heap.size + 1, 3, none⟩ = some (.int .i64 b) := by rw [hw0]; go_simp
  have k0_6 : w0.cell? ⟨w.heap.size + 1, 4, none⟩ = some (.int .i64 c) := by rw [hw0]; go_simp
  have k0_7 : w0.cell? ⟨w.heap.size + 1, 5, none⟩ = some (.int .i64 n) := by rw [hw0]; go_simp
  have k0_8 : w0.cell? ⟨w.heap.size + 1 + 1, 0, none⟩ = some (.slice none 0 0) := by rw [hw0]; go_simp
  have k0_9 : w0.cell? ⟨w.heap.size + 1 + 1, 1, none⟩ = some (.slice none 0 0) := by rw [hw0]; go_simp
  have f0_0 : w0.frozen? ⟨w.heap.size + 1 + 1, 0, none⟩ = false := by rw [hw0]; go_simp
  have f0_1 : w0.frozen? ⟨w.heap.size + 1 + 1, 1, none⟩ = false := by rw [hw0]; go_simp
  clear hw0
  go_wp2_with fail
  apply wp_share5 (F := fun W bx1 g11 d11 g21 d21 => Below w0.heap.size w0 W ∧ W.cell? ⟨bx1, 0, none⟩ = some (.slice (some ⟨g11, 0, none⟩) rs.length d11) ∧ W.cell? ⟨bx1, 1, none⟩ = some (.slice (some ⟨g21, 0, none⟩) os.length d21) ∧ w0.heap.size ≤ bx1 ∧ bx1 < W.heap.size ∧ W.frozen? ⟨bx1, 0, none⟩ = false ∧ W.frozen? ⟨bx1, 1, none⟩ = false ∧ Own W w0.heap.size 3 1 (some ⟨g11, 0, none⟩) rs.length d11 (I64 rs) ∧ Own W w0.heap.size 3 1 (some ⟨g21, 0, none⟩) os.length d21 (I64 os) ∧ g11 < g21 ∧ bx1 ≠ g11 ∧ bx1 ≠ g21 ∧ True)
  case h1 =>
    have a0_1 : w0.heap.size ≠ 0 ∨ True := .inr trivial
    have n1_33 : w.heap.size ≠ w0.heap.size := (by omega)
    have n1_33a : w0.heap.size ≠ w.heap.size := (by omega)
    have n1_35 : w.heap.size + 1 ≠ w0.heap.size := (by omega)
    have n1_35a : w0.heap.size ≠ w.heap.size + 1 := (by omega)
    have n1_37 : w.heap.size + 1 + 1 ≠ w0.heap.size := (by omega)
    have n1_37a : w0.heap.size ≠ w.heap.size + 1 + 1 := (by omega)
    go_region_held3 (fun w' => w'.cell? ⟨w.heap.size, 0, none⟩ = some (.slice a1 rs.length c1) ∧ w'.cell? ⟨w.heap.size, 1, none⟩ = some (.slice a2 os.length c2))
      (first | go_keep)
      (first | (go_at_call 90; refine (ints_any rs a1 c1 _ (by omega) (HR1.out.below (by (repeat (first | with_reducible exact Below.refl _ _ | (with_reducible refine bel_next ?_ ?_ (by assumption)) | (with_reducible refine Below.alloc ?_ ?_ _) | (with_reducible refine Below.drew ?_) | (with_reducible refine below_drewN ?_ _) | (with_reducible refine Below.setCell ?_ ?_ _))) <;> (first | omega | (simp; done) | (simp; omega))))).mono ?_; rintro e v1 ⟨g11, d11, rfl, ho1, _, _, hv1⟩; have zv1 := hv1.size; (try simp at zv1); have ge1 := ho1.ge; (try simp at ge1); have yv1_0 : w.heap.size < v1.heap.size := (by omega); have nv1_0 : w.heap.size ≠ v1.heap.size := (by omega); have mv1_0 : v1.heap.size ≠ w.heap.size := (by omega); have kv1_0 := bel_keeps hv1 (b := w.heap.size) (o := 0) (v := .slice a1 rs.length c1) (by first | (go_simp; done) | assumption); have kv1_1 := bel_keeps hv1 (b := w.heap.size) (o := 1) (v := .slice a2 os.length c2) (by first | (go_simp; done) | assumption); (try have yc1_0 : w0.heap.size < v1.heap.size := (by omega)); (try have bc1_00 := bel_keeps hv1 (b := w0.heap.size) (o := 0) (v := .slice none 0 0) (by first | (go_simp; done) | assumption)); (try have qc1_00 := bel_free hv1 (b := w0.heap.size) (o := 0) (by first | omega | (simp; done) | (simp; omega)) (by first | (go_simp; done) | assumption)); (try have bc1_01 := bel_keeps hv1 (b := w0.heap.size) (o := 1) (v := .slice none 0 0) (by first | (go_simp; done) | assumption)); (try have qc1_01 := bel_free hv1 (b := w0.heap.size) (o := 1) (by first | omega | (simp; done) | (simp; omega)) (by first | (go_simp; done) | assumption))) | (go_at_call 90; refine (ints_any os a2 c2 _ (by omega) (HR2.out.below (by (repeat (first | with_reducible exact Below.refl _ _ | (with_reducible refine bel_next ?_ ?_ (by assumption)) | (with_reducible refine Below.alloc ?_ ?_ _) | (with_reducible refine Below.drew ?_) | (with_reducible refine below_drewN ?_ _) | (with_reducible refine Below.setCell ?_ ?_ _))) <;> (first | omega | (simp; done) | (simp; omega))))).mono ?_; rintro e v2 ⟨g21, d21, rfl, ho2, _, _, hv2⟩; have zv2 := hv2.size; (try simp at zv2); have ge2 := ho2.ge; (try simp at ge2); have yv2_0 : w.heap.size < v2.heap.size := (by omega); have nv2_0 : w.heap.size ≠ v2.heap.size := (by omega); have mv2_0 : v2.heap.size ≠ w.heap.size := (by omega); have kv2_0 := bel_keeps hv2 (b := w.heap.size) (o := 0) (v := .slice a1 rs.length c1) (by first | (go_simp; done) | assumption); have kv2_1 := bel_keeps hv2 (b := w.heap.size) (o := 1) (v := .slice a2 os.length c2) (by first | (go_simp; done) | assumption); (try have yc2_0 : w0.heap.size < v2.heap.size := (by omega)); (try have bc2_00 := bel_keeps hv2 (b := w0.heap.size) (o := 0) (v := .slice none 0 0) (by first | (go_simp; done) | assumption)); (try have qc2_00 := bel_free hv2 (b := w0.heap.size) (o := 0) (by first | omega | (simp; done) | (simp; omega)) (by first | (go_simp; done) | assumption)); (try have bc2_01 := bel_keeps hv2 (b := w0.heap.size) (o := 1) (v := .slice none 0 0) (by first | (go_simp; done) | assumption)); (try have qc2_01 := bel_free hv2 (b := w0.heap.size) (o := 1) (by first | omega | (simp; done) | (simp; omega)) (by first | (go_simp; done) | assumption)); (try have yc2_1 : v1.heap.size < v2.heap.size := (by omega)); (try have bc2_10 := bel_keeps hv2 (b := v1.heap.size) (o := 0) (v := .slice none 0 0) (by first | (go_simp; done) | assumption)); (try have qc2_10 := bel_free hv2 (b := v1.heap.size) (o := 0) (by first | omega | (simp; done) | (simp; omega)) (by first | (go_simp; done) | assumption)); (try have bc2_11 := bel_keeps hv2 (b := v1.heap.size) (o := 1) (v := .slice none 0 0) (by first | (go_simp; done) | assumption)); (try have qc2_11 := bel_free hv2 (b := v1.heap.size) (o := 1) (by first | omega | (simp; done) | (simp; omega)) (by first | (go_simp; done) | assumption))))
    ·
      refine ⟨rfl, v2.heap.size, g11, d11, g21, d21, ⟨(by (repeat (first | with_reducible exact Below.refl _ _ | (with_reducible refine bel_next ?_ ?_ (by assumption)) | (with_reducible refine Below.alloc ?_ ?_ _) | (with_reducible refine Below.drew ?_) | (with_reducible refine below_drewN ?_ _) | (with_reducible refine Below.setCell ?_ ?_ _))) <;> (first | omega | (simp; done) | (simp; omega))), (by first | (go_simp; done) | assumption), (by first | (go_simp; done) | assumption), (by first | omega | (simp; done) | (simp; omega)), (by first | omega | (simp [World.setCell]; done) | (simp [World.setCell]; omega)), (by first | (go_simp; done) | assumption), (by first | (go_simp; done) | assumption), (ho1.lo (by first | omega | (simp; done) | (simp; omega))).later (by (repeat (first | with_reducible exact Kp.refl _ _ | (with_reducible refine Kp.rng ?_ (by assumption) ?_) | (with_reducible refine Kp.below ?_ (by assumption)) | (with_reducible refine Kp.grown ?_ (by assumption) ?_) | (with_reducible refine Kp.alloc ?_ _) | (with_reducible refine Kp.drew ?_) | (with_reducible refine Kp.drewN ?_ _) | (with_reducible refine Kp.setCell ?_ _ ?_))) <;> (first | omega | (simp; done) | (simp; omega))), (ho2.lo (by first | omega | (simp; done) | (simp; omega))).later (by (repeat (first | with_reducible exact Kp.refl _ _ | (with_reducible refine Kp.rng ?_ (by assumption) ?_) | (with_reducible refine Kp.below ?_ (by assumption)) | (with_reducible refine Kp.grown ?_ (by assumption) ?_) | (with_reducible refine Kp.alloc ?_ _) | (with_reducible refine Kp.drew ?_) | (with_reducible refine Kp.drewN ?_ _) | (with_reducible refine Kp.setCell ?_ _ ?_))) <;> (first | omega | (simp; done) | (simp; omega))), (by first | omega | (simp; done) | (simp; omega)), (by first | omega | (simp; done) | (simp; omega)), (by first | omega | (simp; done) | (simp; omega)), trivial⟩, ?_⟩
      generalize (v2.alloc (.cells #[.slice (some ⟨g11, 0, none⟩) rs.length d11, .slice (some ⟨g21, 0, none⟩) os.length d21] 57)) = W
      generalize v2.heap.size = bx
      rfl
    ·
      refine ⟨rfl, v1.heap.size, g11, d11, g21, d21, ⟨(by (repeat (first | with_reducible exact Below.refl _ _ | (with_reducible refine bel_next ?_ ?_ (by assumption)) | (with_reducible refine Below.alloc ?_ ?_ _) | (with_reducible refine Below.drew ?_) | (with_reducible refine below_drewN ?_ _) | (with_reducible refine Below.setCell ?_ ?_ _))) <;> (first | omega | (simp; done) | (simp; omega))), (by first | (go_simp; done) | assumption), (by first | (go_simp; done) | assumption), (by first | omega | (simp; done) | (simp; omega)), (by first | omega | (simp [World.setCell]; done) | (simp [World.setCell]; omega)), (by first | (go_simp; done) | assumption), (by first | (go_simp; done) | assumption), (ho1.lo (by first | omega | (simp; done) | (simp; omega))).later (by (repeat (first | with_reducible exact Kp.refl _ _ | (with_reducible refine Kp.rng ?_ (by assumption) ?_) | (with_reducible refine Kp.below ?_ (by assumption)) | (with_reducible refine Kp.grown ?_ (by assumption) ?_) | (with_reducible refine Kp.alloc ?_ _) | (with_reducible refine Kp.drew ?_) | (with_reducible refine Kp.drewN ?_ _) | (with_reducible refine Kp.setCell ?_ _ ?_))) <;> (first | omega | (simp; done) | (simp; omega))), (ho2.lo (by first | omega | (simp; done) | (simp; omega))).later (by (repeat (first | with_reducible exact Kp.refl _ _ | (with_reducible refine Kp.rng ?_ (by assumption) ?_) | (with_reducible refine Kp.below ?_ (by assumption)) | (with_reducible refine Kp.grown ?_ (by assumption) ?_) | (with_reducible refine Kp.alloc ?_ _) | (with_reducible refine Kp.drew ?_) | (with_reducible refine Kp.drewN ?_ _) | (with_reducible refine Kp.setCell ?_ _ ?_))) <;> (first | omega | (simp; done) | (simp; omega))), (by first | omega | (simp; done) | (simp; omega)), (by first | omega | (simp; done) | (simp; omega)), (by first | omega | (simp; done) | (simp; omega)), trivial⟩, ?_⟩
      generalize (World.setCell (World.setCell v2 ⟨v1.heap.size, 0, none⟩ (.slice (some ⟨g11, 0, none⟩) rs.length d11)) ⟨v1.heap.size, 1, none⟩ (.slice (some ⟨g21, 0, none⟩) os.length d21)) = W
      generalize v1.heap.size = bx
      rfl
    ·
      refine ⟨rfl, w0.heap.size, g11, d11, g21, d21, ⟨(by (repeat (first | with_reducible exact Below.refl _ _ | (with_reducible refine bel_next ?_ ?_ (by assumption)) | (with_reducible refine Below.alloc ?_ ?_ _) | (with_reducible refine Below.drew ?_) | (with_reducible refine below_drewN ?_ _) | (with_reducible refine Below.setCell ?_ ?_ _))) <;> (first | omega | (simp; done) | (simp; omega))), (by first | (go_simp; done) | assumption), (by first | (go_simp; done) | assumption), (by first | omega | (simp; done) | (simp; omega)), (by first | omega | (simp [World.setCell]; done) | (simp [World.setCell]; omega)), (by first | (go_simp; done) | assumption), (by first | (go_simp; done) | assumption), (ho1.lo (by first | omega | (simp; done) | (simp; omega))).later (by (repeat (first | with_reducible exact Kp.refl _ _ | (with_reducible refine Kp.rng ?_ (by assumption) ?_) | (with_reducible refine Kp.below ?_ (by assumption)) | (with_reducible refine Kp.grown ?_ (by assumption) ?_) | (with_reducible refine Kp.alloc ?_ _) | (with_reducible refine Kp.drew ?_) | (with_reducible refine Kp.drewN ?_ _) | (with_reducible refine Kp.setCell ?_ _ ?_))) <;> (first | omega | (simp; done) | (simp; omega))), (ho2.lo (by first | omega | (simp; done) | (simp; omega))).later (by (repeat (first | with_reducible exact Kp.refl _ _ | (with_reducible refine Kp.rng ?_ (by assumption) ?_) | (with_reducible refine Kp.below ?_ (by assumption)) | (with_reducible refine Kp.grown ?_ (by assumption) ?_) | (with_reducible refine Kp.alloc ?_ _) | (with_reducible refine Kp.drew ?_) | (with_reducible refine Kp.drewN ?_ _) | (with_reducible refine Kp.setCell ?_ _ ?_))) <;> (first | omega | (simp; done) | (simp; omega))), (by first | omega | (simp; done) | (simp; omega)), (by first | omega | (simp; done) | (simp; omega)), (by first | omega | (simp; done) | (simp; omega)), trivial⟩, ?_⟩
      generalize (World.setCell (World.setCell v2 ⟨w0.heap.size, 0, none⟩ (.slice (some ⟨g11, 0, none⟩) rs.length d11)) ⟨w0.heap.size, 1, none⟩ (.slice (some ⟨g21, 0, none⟩) os.length d21)) = W
      generalize w0.heap.size = bx
      rfl
  rintro w1 bx1 g11 d11 g21 d21 ⟨hb1, r1_0, r1_1, r1_2, r1_3, r1_4, r1_5, r1_6, r1_7, r1_8, r1_9, r1_10, r1_11⟩
  have z1 := hb1.size
  (try simp at z1)
  have y1_0 : w.heap.size < w1.heap.size := (by omega)
  have y1_1 : w.heap.size + 1 < w1.heap.size := (by omega)
  have y1_2 : w.heap.size + 1 + 1 < w1.heap.size := (by omega)
  have k1_0 := bel_keeps hb1 (b := w.heap.size) (o := 0) (v := .slice a1 rs.length c1) (by first | (go_simp; done) | assumption)
  have k1_1 := bel_keeps hb1 (b := w.heap.size) (o := 1) (v := .slice a2 os.length c2) (by first | (go_simp; done) | assumption)
  have k1_2 := bel_keeps hb1 (b := w.heap.size + 1) (o := 0) (v := .int .i64 op) (by first | (go_simp; done) | assumption)
  have k1_3 := bel_keeps hb1 (b := w.heap.size + 1) (o := 1) (v := .int .i64 dst) (by first | (go_simp; done) | assumption)
  have k1_4 := bel_keeps hb1 (b := w.heap.size + 1) (o := 2) (v := .int .i64 a) (by first | (go_simp; done) | assumption)
  have k1_5 := bel_keeps hb1 (b := w.heap.size + 1) (o := 3) (v := .int .i64 b) (by first | (go_simp; done) | assumption)
  have k1_6 := bel_keeps hb1 (b := w.heap.size + 1) (o := 4) (v := .int .i64 c) (by first | (go_simp; done) | assumption)
  have k1_7 := bel_keeps hb1 (b := w.heap.size + 1) (o := 5) (v := .int .i64 n) (by first | (go_simp; done) | assumption)
  have k1_8 := bel_keeps hb1 (b := w.heap.size + 1 + 1) (o := 0) (v := .slice none 0 0) (by first | (go_simp; done) | assumption)
  have k1_9 := bel_keeps hb1 (b := w.heap.size + 1 + 1) (o := 1) (v := .slice none 0 0) (by first | (go_simp; done) | assumption)
  have f1_0 := bel_free hb1 (b := w.heap.size + 1 + 1) (o := 0) (by first | omega | (simp; done) | (simp; omega)) (by first | (go_simp; done) | assumption)
  have f1_1 := bel_free hb1 (b := w.heap.size + 1 + 1) (o := 1) (by first | omega | (simp; done) | (simp; omega)) (by first | (go_simp; done) | assumption)
  clear k0_0 k0_1 k0_2 k0_3 k0_4 k0_5 k0_6 k0_7 k0_8 k0_9 f0_0 f0_1
  have hO1 := Lib.hid r1_6
  have hO2 := Lib.hid r1_7
  have lg1 := r1_6.ge
  have lg2 := r1_7.ge
  clear r1_6 r1_7
  go_wp2_with fail
  refine (iStateOk_any rs os _ _ _ _ _ hM1 hM2 (HR1.out.below (by (repeat (first | with_reducible exact Below.refl _ _ | (with_reducible refine bel_next ?_ ?_ (by assumption)) | (with_reducible refine Below.alloc ?_ ?_ _) | (with_reducible refine Below.drew ?_) | (with_reducible refine below_drewN ?_ _) | (with_reducible refine Below.setCell ?_ ?_ _))) <;> (first | omega | (simp; done) | (simp; omega)))) (HR2.out.below (by (repeat (first | with_reducible exact Below.refl _ _ | (with_reducible refine bel_next ?_ ?_ (by assumption)) | (with_reducible refine Below.alloc ?_ ?_ _) | (with_reducible refine Below.drew ?_) | (with_reducible refine below_drewN ?_ _) | (with_reducible refine Below.setCell ?_ ?_ _))) <;> (first | omega | (simp; done) | (simp; omega))))).mono ?_
  rintro e w2 ⟨rfl, hb2⟩
  have z2 := hb2.size
  (try simp at z2)
  have y2_0 : w.heap.size < w2.heap.size := (by omega)
  have y2_1 : w.heap.size + 1 < w2.heap.size := (by omega)
  have y2_2 : w.heap.size + 1 + 1 < w2.heap.size := (by omega)
  have y2_3 : bx1 < w2.heap.size := (by omega)
  have k2_0 := bel_keeps hb2 (b := w.heap.size) (o := 0) (v := .slice a1 rs.length c1) (by first | (go_simp; done) | assumption)
  have k2_1 := bel_keeps hb2 (b := w.heap.size) (o := 1) (v := .slice a2 os.length c2) (by first | (go_simp; done) | assumption)
  have k2_2 := bel_keeps hb2 (b := w.heap.size + 1) (o := 0) (v := .int .i64 op) (by first | (go_simp; done) | assumption)
  have k2_3 := bel_keeps hb2 (b := w.heap.size + 1) (o := 1) (v := .int .i64 dst) (by first | (go_simp; done) | assumption)
  have k2_4 := bel_keeps hb2 (b := w.heap.size + 1) (o := 2) (v := .int .i64 a) (by first | (go_simp; done) | assumption)
  have k2_5 := bel_keeps hb2 (b := w.heap.size + 1) (o := 3) (v := .int .i64 b) (by first | (go_simp; done) | assumption)
  have k2_6 := bel_keeps hb2 (b := w.heap.size + 1) (o := 4) (v := .int .i64 c) (by first | (go_simp; done) | assumption)
  have k2_7 := bel_keeps hb2 (b := w.heap.size + 1) (o := 5) (v := .int .i64 n) (by first | (go_simp; done) | assumption)
  have k2_8 := bel_keeps hb2 (b := w.heap.size + 1 + 1) (o := 0) (v := .slice none 0 0) (by first | (go_simp; done) | assumption)
  have k2_9 := bel_keeps hb2 (b := w.heap.size + 1 + 1) (o := 1) (v := .slice none 0 0) (by first | (go_simp; done) | assumption)
  have k2_10 := bel_keeps hb2 (b := bx1) (o := 0) (v := .slice (some ⟨g11, 0, none⟩) rs.length d11) (by first | (go_simp; done) | assumption)
  have k2_11 := bel_keeps hb2 (b := bx1) (o := 1) (v := .slice (some ⟨g21, 0, none⟩) os.length d21) (by first | (go_simp; done) | assumption)
  have f2_0 := bel_free hb2 (b := w.heap.size + 1 + 1) (o := 0) (by first | omega | (simp; done) | (simp; omega)) (by first | (go_simp; done) | assumption)
  have f2_1 := bel_free hb2 (b := w.heap.size + 1 + 1) (o := 1) (by first | omega | (simp; done) | (simp; omega)) (by first | (go_simp; done) | assumption)
  have f2_2 := bel_free hb2 (b := bx1) (o := 0) (by first | omega | (simp; done) | (simp; omega)) (by first | (go_simp; done) | assumption)
  have f2_3 := bel_free hb2 (b := bx1) (o := 1) (by first | omega | (simp; done) | (simp; omega)) (by first | (go_simp; done) | assumption)
  clear k1_0 k1_1 k1_2 k1_3 k1_4 k1_5 k1_6 k1_7 k1_8 k1_9 r1_0 r1_1 f1_0 f1_1 r1_4 r1_5
  rw [HST.out]
  go_wp2_with fail
  refine (isPlain_any ⟨op, dst, a, b, c, n⟩ _).mono ?_
  rintro e w3 ⟨rfl, hb3⟩
  have z3 := hb3.size
  (try simp at z3)
  have y3_0 : w.heap.size < w3.heap.size := (by omega)
  have y3_1 : w.heap.size + 1 < w3.heap.size := (by omega)
  have y3_2 : w.heap.size + 1 + 1 < w3.heap.size := (by omega)
  have y3_3 : bx1 < w3.heap.size := (by omega)
  have k3_0 := bel_keeps hb3 (b := w.heap.size) (o := 0) (v := .slice a1 rs.length c1) (by first | (go_simp; done) | assumption)
  have k3_1 := bel_keeps hb3 (b := w.heap.size) (o := 1) (v := .slice a2 os.length c2) (by first | (go_simp; done) | assumption)
  have k3_2 := bel_keeps hb3 (b := w.heap.size + 1) (o := 0) (v := .int .i64 op) (by first | (go_simp; done) | assumption)
  have k3_3 := bel_keeps hb3 (b := w.heap.size + 1) (o := 1) (v := .int .i64 dst) (by first | (go_simp; done) | assumption)
  have k3_4 := bel_keeps hb3 (b := w.heap.size + 1) (o := 2) (v := .int .i64 a) (by first | (go_simp; done) | assumption)
  have k3_5 := bel_keeps hb3 (b := w.heap.size + 1) (o := 3) (v := .int .i64 b) (by first | (go_simp; done) | assumption)
  have k3_6 := bel_keeps hb3 (b := w.heap.size + 1) (o := 4) (v := .int .i64 c) (by first | (go_simp; done) | assumption)
  have k3_7 := bel_keeps hb3 (b := w.heap.size + 1) (o := 5) (v := .int .i64 n) (by first | (go_simp; done) | assumption)
  have k3_8 := bel_keeps hb3 (b := w.heap.size + 1 + 1) (o := 0) (v := .slice none 0 0) (by first | (go_simp; done) | assumption)
  have k3_9 := bel_keeps hb3 (b := w.heap.size + 1 + 1) (o := 1) (v := .slice none 0 0) (by first | (go_simp; done) | assumption)
  have k3_10 := bel_keeps hb3 (b := bx1) (o := 0) (v := .slice (some ⟨g11, 0, none⟩) rs.length d11) (by first | (go_simp; done) | assumption)
  have k3_11 := bel_keeps hb3 (b := bx1) (o := 1) (v := .slice (some ⟨g21, 0, none⟩) os.length d21) (by first | (go_simp; done) | assumption)
  have f3_0 := bel_free hb3 (b := w.heap.size + 1 + 1) (o := 0) (by first | omega | (simp; done) | (simp; omega)) (by first | (go_simp; done) | assumption)
  have f3_1 := bel_free hb3 (b := w.heap.size + 1 + 1) (o := 1) (by first | omega | (simp; done) | (simp; omega)) (by first | (go_simp; done) | assumption)
  have f3_2 := bel_free hb3 (b := bx1) (o := 0) (by first | omega | (simp; done) | (simp; omega)) (by first | (go_simp; done) | assumption)
  have f3_3 := bel_free hb3 (b := bx1) (o := 1) (by first | omega | (simp; done) | (simp; omega)) (by first | (go_simp; done) | assumption)
  clear k2_0 k2_1 k2_2 k2_3 k2_4 k2_5 k2_6 k2_7 k2_8 k2_9 k2_10 k2_11 f2_0 f2_1 f2_2 f2_3
  rw [HP.out]
  go_wp2_with fail
  refine bodyPost_ret (v := .agg #[.slice (some ⟨g11, 0, none⟩) (rs.length) d11, .slice (some ⟨g21, 0, none⟩) (os.length) d21]) (by simp [results, Try.results57, go_sem, k3_8, k3_9, f3_0, f3_1]) rfl ⟨g11, d11, g21, d21, by simp, ?_, ?_, r1_8, ?_⟩
  · simpa using (hO1.out.lo (lo' := w.heap.size) (by omega)).later (by (repeat (first | with_reducible exact Kp.refl _ _ | (with_reducible refine Kp.rng ?_ (by assumption) ?_) | (with_reducible refine Kp.below ?_ (by assumption)) | (with_reducible refine Kp.grown ?_ (by assumption) ?_) | (with_reducible refine Kp.alloc ?_ _) | (with_reducible refine Kp.drew ?_) | (with_reducible refine Kp.drewN ?_ _) | (with_reducible refine Kp.setCell ?_ _ ?_))) <;> (first | omega | (simp; done) | (simp; omega)))
  · simpa using (hO2.out.lo (lo' := w.heap.size) (by omega)).later (by (repeat (first | with_reducible exact Kp.refl _ _ | (with_reducible refine Kp.rng ?_ (by assumption) ?_) | (with_reducible refine Kp.below ?_ (by assumption)) | (with_reducible refine Kp.grown ?_ (by assumption) ?_) | (with_reducible refine Kp.alloc ?_ _) | (with_reducible refine Kp.drew ?_) | (with_reducible refine Kp.drewN ?_ _) | (with_reducible refine Kp.setCell ?_ _ ?_))) <;> (first | omega | (simp; done) | (simp; omega)))
  · exact (by (repeat (first | with_reducible exact Below.refl _ _ | (with_reducible refine bel_next ?_ ?_ (by assumption)) | (with_reducible refine Below.alloc ?_ ?_ _) | (with_reducible refine Below.drew ?_) | (with_reducible refine below_drewN ?_ _) | (with_reducible refine Below.setCell ?_ ?_ _))) <;> (first | omega | (simp; done) | (simp; omega)))
set_option maxRecDepth 20000 in
set_option maxHeartbeats 8000000 in
theorem iStep_no3 (rs os : List Int) (a1 a2 : Option Addr) (c1 c2 : Nat) (op dst a b c n : Int) (rr : List Rw) (ai : Option Addr) (ci : Nat) (w : World) (hm1 : rs.length ≤ 1048576) (hm2 : os.length ≤ 1048576) (hr1 : RdC w a1 (I64 rs)) (hr2 : RdC w a2 (I64 os)) (hmr : rr.length ≤ 1048576) (hml : rowsLe rr) (hri : RdR w ai rr) (h1 : stateOk rs os = true) (h2 : plainB ⟨op, dst, a, b, c, n⟩ = true) (h3 : inputsOk (rr.map Rw.xs) = false) :
    Calls Try.prog 57 #[.agg #[.slice a1 rs.length c1, .slice a2 os.length c2], stV ⟨op, dst, a, b, c, n⟩, .slice ai rr.length ci] w fun e w' => ∃ g1 d1 g2 d2, e = .returned (.agg #[.slice (some ⟨g1, 0, none⟩) (stepRegs rs os ⟨op, dst, a, b, c, n⟩ (rr.map Rw.xs)).length d1, .slice (some ⟨g2, 0, none⟩) (stepOuts rs os ⟨op, dst, a, b, c, n⟩ (rr.map Rw.xs)).length d2]) ∧
      Own w' w.heap.size 3 1 (some ⟨g1, 0, none⟩) (stepRegs rs os ⟨op, dst, a, b, c, n⟩ (rr.map Rw.xs)).length d1 (I64 (stepRegs rs os ⟨op, dst, a, b, c, n⟩ (rr.map Rw.xs))) ∧ Own w' w.heap.size 3 1 (some ⟨g2, 0, none⟩) (stepOuts rs os ⟨op, dst, a, b, c, n⟩ (rr.map Rw.xs)).length d2 (I64 (stepOuts rs os ⟨op, dst, a, b, c, n⟩ (rr.map Rw.xs))) ∧ g1 < g2 ∧ Below w.heap.size w w' := by
  have hM1 : rs.length ≤ maxLen := by unfold maxLen; omega
  have hM2 : os.length ≤ maxLen := by unfold maxLen; omega
  have hMr : rr.length ≤ maxLen := by unfold maxLen; omega
  have HN1 := Lib.hid (rd_none hr1)
  have HN2 := Lib.hid (rd_none hr2)
  have HR1 := Lib.hid hr1
  have HR2 := Lib.hid hr2
  have HRI := Lib.hid hri
  clear hr1 hr2 hri
  have hB : stepB ⟨op, dst, a, b, c, n⟩ rs os (rr.map Rw.xs) = false := by simp [stepB, h3]
  have e1 : (stepRegs rs os ⟨op, dst, a, b, c, n⟩ (rr.map Rw.xs)) = rs := by simp [stepRegs, hB]
  have e2 : (stepOuts rs os ⟨op, dst, a, b, c, n⟩ (rr.map Rw.xs)) = os := by simp [stepOuts, hB]
  rw [e1, e2]
  clear hB e1 e2
  have HST := Lib.hid h1
  have HP := Lib.hid h2
  have HIN := Lib.hid h3
  clear h1 h2 h3
  unfold stV
  go_enter Try.func57, Try.ntmps57
  go_wp2_with fail
  obtain ⟨w0, hw0⟩ : ∃ W, W = ((w.alloc (.cells #[.slice a1 rs.length c1, .slice a2 os.length c2] 57)).alloc (.cells #[.int .i64 op, .int .i64 dst, .int .i64 a, .int .i64 b, .int .i64 c, .int .i64 n] 38)).alloc (.cells #[.slice none 0 0, .slice none 0 0] 57) := ⟨_, rfl⟩
  rw [← hw0]
  have hb0 : Below w.heap.size w w0 := by rw [hw0]; exact (by (repeat (first | with_reducible exact Below.refl _ _ | (with_reducible refine bel_next ?_ ?_ (by assumption)) | (with_reducible refine Below.alloc ?_ ?_ _) | (with_reducible refine Below.drew ?_) | (with_reducible refine below_drewN ?_ _) | (with_reducible refine Below.setCell ?_ ?_ _))) <;> (first | omega | (simp; done) | (simp; omega)))
  have z0 : w.heap.size + 1 + 1 < w0.heap.size := by rw [hw0]; simp
  have k0_0 : w0.cell? ⟨w.heap.size, 0, none⟩ = some (.slice a1 rs.length c1) := by rw [hw0]; go_simp
  have k0_1 : w0.cell? ⟨w.heap.size, 1, none⟩ = some (.slice a2 os.length c2) := by rw [hw0]; go_simp
  have k0_2 : w0.cell? ⟨w.heap.size + 1, 0, none⟩ = some (.int .i64 op) := by rw [hw0]; go_simp
  have k0_3 : w0.cell? ⟨w.heap.size + 1, 1, none⟩ = some (.int .i64 dst) := by rw [hw0]; go_simp
  have k0_4 : w0.cell? ⟨w.heap.size + 1, 2, none⟩ = some (.int .i64 a) := by rw [hw0]; go_simp
  have k0_5 : w0.cell? ⟨w.heap.size + 1, 3, none⟩ = some (.int .i64 b) := by rw [hw0]; go_simp
  have k0_6 : w0.cell? ⟨w.heap.size + 1, 4, none⟩ = some (.int .i64 c) := by rw [hw0]; go_simp
  have k0_7 : w0.cell? ⟨w.heap.size + 1, 5, none⟩ = some (.int .i64 n) := by rw [hw0]; go_simp
  have k0_8 : w0.cell? ⟨w.heap.size + 1 + 1, 0, none⟩ = some (.slice none 0 0) := by rw [hw0]; go_simp
  have k0_9 : w0.cell? ⟨w.heap.size + 1 + 1, 1, none⟩ = some (.slice none 0 0) := by rw [hw0]; go_simp
  have f0_0 : w0.frozen? ⟨w.heap.size + 1 + 1, 0, none⟩ = false := by rw [hw0]; go_simp
  have f0_1 : w0.frozen? ⟨w.heap.size + 1 + 1, 1, none⟩ = false := by rw [hw0]; go_simp
  clear hw0
  go_wp2_with fail
  apply wp_share5 (F := fun W bx1 g11 d11 g21 d21 => Below w0.heap.size w0 W ∧ W.cell? ⟨bx1, 0, none⟩ = some (.slice (some ⟨g11, 0, none⟩) rs.length d11) ∧ W.cell? ⟨bx1, 1, none⟩ = some (.slice (some ⟨g21, 0, none⟩) os.length d21) ∧ w0.heap.size ≤ bx1 ∧ bx1 < W.heap.size ∧ W.frozen? ⟨bx1, 0, none⟩ = false ∧ W.frozen? ⟨bx1, 1, none⟩ = false ∧ Own W w0.heap.size 3 1 (some ⟨g11, 0, none⟩) rs.length d11 (I64 rs) ∧ Own W w0.heap.size 3 1 (some ⟨g21, 0, none⟩) os.length d21 (I64 os) ∧ g11 < g21 ∧ bx1 ≠ g11 ∧ bx1 ≠ g21 ∧ True)
  case h1 =>
    have a0_1 : w0.heap.size ≠ 0 ∨ True := .inr trivial
    have n1_34 : w.heap.size ≠ w0.heap.size := (by omega)
    have n1_34a : w0.heap.size ≠ w.heap.size := (by omega)
    have n1_36 : w.heap.size + 1 ≠ w0.heap.size := (by omega)
    have n1_36a : w0.heap.size ≠ w.heap.size + 1 := (by omega)
    have n1_38 : w.heap.size + 1 + 1 ≠ w0.heap.size := (by omega)
    have n1_38a : w0.heap.size ≠ w.heap.size + 1 + 1 := (by omega)
    go_region_held3 (fun w' => w'.cell? ⟨w.heap.size, 0, none⟩ = some (.slice a1 rs.length c1) ∧ w'.cell? ⟨w.heap.size, 1, none⟩ = some (.slice a2 os.length c2))
      (first | go_keep)
      (first | (go_at_call 90; refine (ints_any rs a1 c1 _ (by omega) (HR1.out.below (by (repeat (first | with_reducible exact Below.refl _ _ | (with_reducible refine bel_next ?_ ?_ (by assumption)) | (with_reducible refine Below.alloc ?_ ?_ _) | (with_reducible refine Below.drew ?_) | (with_reducible refine below_drewN ?_ _) | (with_reducible refine Below.setCell ?_ ?_ _))) <;> (first | omega | (simp; done) | (simp; omega))))).mono ?_; rintro e v1 ⟨g11, d11, rfl, ho1, _, _, hv1⟩; have zv1 := hv1.size; (try simp at zv1); have ge1 := ho1.ge; (try simp at ge1); have yv1_0 : w.heap.size < v1.heap.size := (by omega); have nv1_0 : w.heap.size ≠ v1.heap.size := (by omega); have mv1_0 : v1.heap.size ≠ w.heap.size := (by omega); have kv1_0 := bel_keeps hv1 (b := w.heap.size) (o := 0) (v := .slice a1 rs.length c1) (by first | (go_simp; done) | assumption); have kv1_1 := bel_keeps hv1 (b := w.heap.size) (o := 1) (v := .slice a2 os.length c2) (by first | (go_simp; done) | assumption); (try have yc1_0 : w0.heap.size < v1.heap.size := (by omega)); (try have bc1_00 := bel_keeps hv1 (b := w0.heap.size) (o := 0) (v := .slice none 0 0) (by first | (go_simp; done) | assumption)); (try have qc1_00 := bel_free hv1 (b := w0.heap.size) (o := 0) (by first | omega | (simp; done) | (simp; omega)) (by first | (go_simp; done) | assumption)); (try have bc1_01 := bel_keeps hv1 (b := w0.heap.size) (o := 1) (v := .slice none 0 0) (by first | (go_simp; done) | assumption)); (try have qc1_01 := bel_free hv1 (b := w0.heap.size) (o := 1) (by first | omega | (simp; done) | (simp; omega)) (by first | (go_simp; done) | assumption))) | (go_at_call 90; refine (ints_any os a2 c2 _ (by omega) (HR2.out.below (by (repeat (first | with_reducible exact Below.refl _ _ | (with_reducible refine bel_next ?_ ?_ (by assumption)) | (with_reducible refine Below.alloc ?_ ?_ _) | (with_reducible refine Below.drew ?_) | (with_reducible refine below_drewN ?_ _) | (with_reducible refine Below.setCell ?_ ?_ _))) <;> (first | omega | (simp; done) | (simp; omega))))).mono ?_; rintro e v2 ⟨g21, d21, rfl, ho2, _, _, hv2⟩; have zv2 := hv2.size; (try simp at zv2); have ge2 := ho2.ge; (try simp at ge2); have yv2_0 : w.heap.size < v2.heap.size := (by omega); have nv2_0 : w.heap.size ≠ v2.heap.size := (by omega); have mv2_0 : v2.heap.size ≠ w.heap.size := (by omega); have kv2_0 := bel_keeps hv2 (b := w.heap.size) (o := 0) (v := .slice a1 rs.length c1) (by first | (go_simp; done) | assumption); have kv2_1 := bel_keeps hv2 (b := w.heap.size) (o := 1) (v := .slice a2 os.length c2) (by first | (go_simp; done) | assumption); (try have yc2_0 : w0.heap.size < v2.heap.size := (by omega)); (try have bc2_00 := bel_keeps hv2 (b := w0.heap.size) (o := 0) (v := .slice none 0 0) (by first | (go_simp; done) | assumption)); (try have qc2_00 := bel_free hv2 (b := w0.heap.size) (o := 0) (by first | omega | (simp; done) | (simp; omega)) (by first | (go_simp; done) | assumption)); (try have bc2_01 := bel_keeps hv2 (b := w0.heap.size) (o := 1) (v := .slice none 0 0) (by first | (go_simp; done) | assumption)); (try have qc2_01 := bel_free hv2 (b := w0.heap.size) (o := 1) (by first | omega | (simp; done) | (simp; omega)) (by first | (go_simp; done) | assumption)); (try have yc2_1 : v1.heap.size < v2.heap.size := (by omega)); (try have bc2_10 := bel_keeps hv2 (b := v1.heap.size) (o := 0) (v := .slice none 0 0) (by first | (go_simp; done) | assumption)); (try have qc2_10 := bel_free hv2 (b := v1.heap.size) (o := 0) (by first | omega | (simp; done) | (simp; omega)) (by first | (go_simp; done) | assumption)); (try have bc2_11 := bel_keeps hv2 (b := v1.heap.size) (o := 1) (v := .slice none 0 0) (by first | (go_simp; done) | assumption)); (try have qc2_11 := bel_free hv2 (b := v1.heap.size) (o := 1) (by first | omega | (simp; done) | (simp; omega)) (by first | (go_simp; done) | assumption))))
    ·
      refine ⟨rfl, v2.heap.size, g11, d11, g21, d21, ⟨(by (repeat (first | with_reducible exact Below.refl _ _ | (with_reducible refine bel_next ?_ ?_ (by assumption)) | (with_reducible refine Below.alloc ?_ ?_ _) | (with_reducible refine Below.drew ?_) | (with_reducible refine below_drewN ?_ _) | (with_reducible refine Below.setCell ?_ ?_ _))) <;> (first | omega | (simp; done) | (simp; omega))), (by first | (go_simp; done) | assumption), (by first | (go_simp; done) | assumption), (by first | omega | (simp; done) | (simp; omega)), (by first | omega | (simp [World.setCell]; done) | (simp [World.setCell]; omega)), (by first | (go_simp; done) | assumption), (by first | (go_simp; done) | assumption), (ho1.lo (by first | omega | (simp; done) | (simp; omega))).later (by (repeat (first | with_reducible exact Kp.refl _ _ | (with_reducible refine Kp.rng ?_ (by assumption) ?_) | (with_reducible refine Kp.below ?_ (by assumption)) | (with_reducible refine Kp.grown ?_ (by assumption) ?_) | (with_reducible refine Kp.alloc ?_ _) | (with_reducible refine Kp.drew ?_) | (with_reducible refine Kp.drewN ?_ _) | (with_reducible refine Kp.setCell ?_ _ ?_))) <;> (first | omega | (simp; done) | (simp; omega))), (ho2.lo (by first | omega | (simp; done) | (simp; omega))).later (by (repeat (first | with_reducible exact Kp.refl _ _ | (with_reducible refine Kp.rng ?_ (by assumption) ?_) | (with_reducible refine Kp.below ?_ (by assumption)) | (with_reducible refine Kp.grown ?_ (by assumption) ?_) | (with_reducible refine Kp.alloc ?_ _) | (with_reducible refine Kp.drew ?_) | (with_reducible refine Kp.drewN ?_ _) | (with_reducible refine Kp.setCell ?_ _ ?_))) <;> (first | omega | (simp; done) | (simp; omega))), (by first | omega | (simp; done) | (simp; omega)), (by first | omega | (simp; done) | (simp; omega)), (by first | omega | (simp; done) | (simp; omega)), trivial⟩, ?_⟩
      generalize (v2.alloc (.cells #[.slice (some ⟨g11, 0, none⟩) rs.length d11, .slice (some ⟨g21, 0, none⟩) os.length d21] 57)) = W
      generalize v2.heap.size = bx
      rfl
    ·
      refine ⟨rfl, v1.heap.size, g11, d11, g21, d21, ⟨(by (repeat (first | with_reducible exact Below.refl _ _ | (with_reducible refine bel_next ?_ ?_ (by assumption)) | (with_reducible refine Below.alloc ?_ ?_ _) | (with_reducible refine Below.drew ?_) | (with_reducible refine below_drewN ?_ _) | (with_reducible refine Below.setCell ?_ ?_ _))) <;> (first | omega | (simp; done) | (simp; omega))), (by first | (go_simp; done) | assumption), (by first | (go_simp; done) | assumption), (by first | omega | (simp; done) | (simp; omega)), (by first | omega | (simp [World.setCell]; done) | (simp [World.setCell]; omega)), (by first | (go_simp; done) | assumption), (by first | (go_simp; done) | assumption), (ho1.lo (by first | omega | (simp; done) | (simp; omega))).later (by (repeat (first | with_reducible exact Kp.refl _ _ | (with_reducible refine Kp.rng ?_ (by assumption) ?_) | (with_reducible refine Kp.below ?_ (by assumption)) | (with_reducible refine Kp.grown ?_ (by assumption) ?_) | (with_reducible refine Kp.alloc ?_ _) | (with_reducible refine Kp.drew ?_) | (with_reducible refine Kp.drewN ?_ _) | (with_reducible refine Kp.setCell ?_ _ ?_))) <;> (first | omega | (simp; done) | (simp; omega))), (ho2.lo (by first | omega | (simp; done) | (simp; omega))).later (by (repeat (first | with_reducible exact Kp.refl _ _ | (with_reducible refine Kp.rng ?_ (by assumption) ?_) | (with_reducible refine Kp.below ?_ (by assumption)) | (with_reducible refine Kp.grown ?_ (by assumption) ?_) | (with_reducible refine Kp.alloc ?_ _) | (with_reducible refine Kp.drew ?_) | (with_reducible refine Kp.drewN ?_ _) | (with_reducible refine Kp.setCell ?_ _ ?_))) <;> (first | omega | (simp; done) | (simp; omega))), (by first | omega | (simp; done) | (simp; omega)), (by first | omega | (simp; done) | (simp; omega)), (by first | omega | (simp; done) | (simp; omega)), trivial⟩, ?_⟩
      generalize (World.setCell (World.setCell v2 ⟨v1.heap.size, 0, none⟩ (.slice (some ⟨g11, 0, none⟩) rs.length d11)) ⟨v1.heap.size, 1, none⟩ (.slice (some ⟨g21, 0, none⟩) os.length d21)) = W
      generalize v1.heap.size = bx
      rfl
    ·
      refine ⟨rfl, w0.heap.size, g11, d11, g21, d21, ⟨(by (repeat (first | with_reducible exact Below.refl _ _ | (with_reducible refine bel_next ?_ ?_ (by assumption)) | (with_reducible refine Below.alloc ?_ ?_ _) | (with_reducible refine Below.drew ?_) | (with_reducible refine below_drewN ?_ _) | (with_reducible refine Below.setCell ?_ ?_ _))) <;> (first | omega | (simp; done) | (simp; omega))), (by first | (go_simp; done) | assumption), (by first | (go_simp; done) | assumption), (by first | omega | (simp; done) | (simp; omega)), (by first | omega | (simp [World.setCell]; done) | (simp [World.setCell]; omega)), (by first | (go_simp; done) | assumption), (by first | (go_simp; done) | assumption), (ho1.lo (by first | omega | (simp; done) | (simp; omega))).later (by (repeat (first | with_reducible exact Kp.refl _ _ | (with_reducible refine Kp.rng ?_ (by assumption) ?_) | (with_reducible refine Kp.below ?_ (by assumption)) | (with_reducible refine Kp.grown ?_ (by assumption) ?_) | (with_reducible refine Kp.alloc ?_ _) | (with_reducible refine Kp.drew ?_) | (with_reducible refine Kp.drewN ?_ _) | (with_reducible refine Kp.setCell ?_ _ ?_))) <;> (first | omega | (simp; done) | (simp; omega))), (ho2.lo (by first | omega | (simp; done) | (simp; omega))).later (by (repeat (first | with_reducible exact Kp.refl _ _ | (with_reducible refine Kp.rng ?_ (by assumption) ?_) | (with_reducible refine Kp.below ?_ (by assumption)) | (with_reducible refine Kp.grown ?_ (by assumption) ?_) | (with_reducible refine Kp.alloc ?_ _) | (with_reducible refine Kp.drew ?_) | (with_reducible refine Kp.drewN ?_ _) | (with_reducible refine Kp.setCell ?_ _ ?_))) <;> (first | omega | (simp; done) | (simp; omega))), (by first | omega | (simp; done) | (simp; omega)), (by first | omega | (simp; done) | (simp; omega)), (by first | omega | (simp; done) | (simp; omega)), trivial⟩, ?_⟩
      generalize (World.setCell (World.setCell v2 ⟨w0.heap.size, 0, none⟩ (.slice (some ⟨g11, 0, none⟩) rs.length d11)) ⟨w0.heap.size, 1, none⟩ (.slice (some ⟨g21, 0, none⟩) os.length d21)) = W
      generalize w0.heap.size = bx
      rfl
  rintro w1 bx1 g11 d11 g21 d21 ⟨hb1, r1_0, r1_1, r1_2, r1_3, r1_4, r1_5, r1_6, r1_7, r1_8, r1_9, r1_10, r1_11⟩
  have z1 := hb1.size
  (try simp at z1)
  have y1_0 : w.heap.size < w1.heap.size := (by omega)
  have y1_1 : w.heap.size + 1 < w1.heap.size := (by omega)
  have y1_2 : w.heap.size + 1 + 1 < w1.heap.size := (by omega)
  have k1_0 := bel_keeps hb1 (b := w.heap.size) (o := 0) (v := .slice a1 rs.length c1) (by first | (go_simp; done) | assumption)
  have k1_1 := bel_keeps hb1 (b := w.heap.size) (o := 1) (v := .slice a2 os.length c2) (by first | (go_simp; done) | assumption)
  have k1_2 := bel_keeps hb1 (b := w.heap.size + 1) (o := 0) (v := .int .i64 op) (by first | (go_simp; done) | assumption)
  have k1_3 := bel_keeps hb1 (b := w.heap.size + 1) (o := 1) (v := .int .i64 dst) (by first | (go_simp; done) | assumption)
  have k1_4 := bel_keeps hb1 (b := w.heap.size + 1) (o := 2) (v := .int .i64 a) (by first | (go_simp; done) | assumption)
  have k1_5 := bel_keeps hb1 (b := w.heap.size + 1) (o := 3) (v := .int .i64 b) (by first | (go_simp; done) | assumption)
  have k1_6 := bel_keeps hb1 (b := w.heap.size + 1) (o := 4) (v := .int .i64 c) (by first | (go_simp; done) | assumption)
  have k1_7 := bel_keeps hb1 (b := w.heap.size + 1) (o := 5) (v := .int .i64 n) (by first | (go_simp; done) | assumption)
  have k1_8 := bel_keeps hb1 (b := w.heap.size + 1 + 1) (o := 0) (v := .slice none 0 0) (by first | (go_simp; done) | assumption)
  have k1_9 := bel_keeps hb1 (b := w.heap.size + 1 + 1) (o := 1) (v := .slice none 0 0) (by first | (go_simp; done) | assumption)
  have f1_0 := bel_free hb1 (b := w.heap.size + 1 + 1) (o := 0) (by first | omega | (simp; done) | (simp; omega)) (by first | (go_simp; done) | assumption)
  have f1_1 := bel_free hb1 (b := w.heap.size + 1 + 1) (o := 1) (by first | omega | (simp; done) | (simp; omega)) (by first | (go_simp; done) | assumption)
  clear k0_0 k0_1 k0_2 k0_3 k0_4 k0_5 k0_6 k0_7 k0_8 k0_9 f0_0 f0_1
  have hO1 := Lib.hid r1_6
  have hO2 := Lib.hid r1_7
  have lg1 := r1_6.ge
  have lg2 := r1_7.ge
  clear r1_6 r1_7
  go_wp2_with fail
  refine (iStateOk_any rs os _ _ _ _ _ hM1 hM2 (HR1.out.below (by (repeat (first | with_reducible exact Below.refl _ _ | (with_reducible refine bel_next ?_ ?_ (by assumption)) | (with_reducible refine Below.alloc ?_ ?_ _) | (with_reducible refine Below.drew ?_) | (with_reducible refine below_drewN ?_ _) | (with_reducible refine Below.setCell ?_ ?_ _))) <;> (first | omega | (simp; done) | (simp; omega)))) (HR2.out.below (by (repeat (first | with_reducible exact Below.refl _ _ | (with_reducible refine bel_next ?_ ?_ (by assumption)) | (with_reducible refine Below.alloc ?_ ?_ _) | (with_reducible refine Below.drew ?_) | (with_reducible refine below_drewN ?_ _) | (with_reducible refine Below.setCell ?_ ?_ _))) <;> (first | omega | (simp; done) | (simp; omega))))).mono ?_
  rintro e w2 ⟨rfl, hb2⟩
  have z2 := hb2.size
  (try simp at z2)
  have y2_0 : w.heap.size < w2.heap.size := (by omega)
  have y2_1 : w.heap.size + 1 < w2.heap.size := (by omega)
  have y2_2 : w.heap.size + 1 + 1 < w2.heap.size := (by omega)
  have y2_3 : bx1 < w2.heap.size := (by omega)
  have k2_0 := bel_keeps hb2 (b := w.heap.size) (o := 0) (v := .slice a1 rs.length c1) (by first | (go_simp; done) | assumption)
  have k2_1 := bel_keeps hb2 (b := w.heap.size) (o := 1) (v := .slice a2 os.length c2) (by first | (go_simp; done) | assumption)
  have k2_2 := bel_keeps hb2 (b := w.heap.size + 1) (o := 0) (v := .int .i64 op) (by first | (go_simp; done) | assumption)
  have k2_3 := bel_keeps hb2 (b := w.heap.size + 1) (o := 1) (v := .int .i64 dst) (by first | (go_simp; done) | assumption)
  have k2_4 := bel_keeps hb2 (b := w.heap.size + 1) (o := 2) (v := .int .i64 a) (by first | (go_simp; done) | assumption)
  have k2_5 := bel_keeps hb2 (b := w.heap.size + 1) (o := 3) (v := .int .i64 b) (by first | (go_simp; done) | assumption)
  have k2_6 := bel_keeps hb2 (b := w.heap.size + 1) (o := 4) (v := .int .i64 c) (by first | (go_simp; done) | assumption)
  have k2_7 := bel_keeps hb2 (b := w.heap.size + 1) (o := 5) (v := .int .i64 n) (by first | (go_simp; done) | assumption)
  have k2_8 := bel_keeps hb2 (b := w.heap.size + 1 + 1) (o := 0) (v := .slice none 0 0) (by first | (go_simp; done) | assumption)
  have k2_9 := bel_keeps hb2 (b := w.heap.size + 1 + 1) (o := 1) (v := .slice none 0 0) (by first | (go_simp; done) | assumption)
  have k2_10 := bel_keeps hb2 (b := bx1) (o := 0) (v := .slice (some ⟨g11, 0, none⟩) rs.length d11) (by first | (go_simp; done) | assumption)
  have k2_11 := bel_keeps hb2 (b := bx1) (o := 1) (v := .slice (some ⟨g21, 0, none⟩) os.length d21) (by first | (go_simp; done) | assumption)
  have f2_0 := bel_free hb2 (b := w.heap.size + 1 + 1) (o := 0) (by first | omega | (simp; done) | (simp; omega)) (by first | (go_simp; done) | assumption)
  have f2_1 := bel_free hb2 (b := w.heap.size + 1 + 1) (o := 1) (by first | omega | (simp; done) | (simp; omega)) (by first | (go_simp; done) | assumption)
  have f2_2 := bel_free hb2 (b := bx1) (o := 0) (by first | omega | (simp; done) | (simp; omega)) (by first | (go_simp; done) | assumption)
  have f2_3 := bel_free hb2 (b := bx1) (o := 1) (by first | omega | (simp; done) | (simp; omega)) (by first | (go_simp; done) | assumption)
  clear k1_0 k1_1 k1_2 k1_3 k1_4 k1_5 k1_6 k1_7 k1_8 k1_9 r1_0 r1_1 f1_0 f1_1 r1_4 r1_5
  rw [HST.out]
  go_wp2_with fail
  refine (isPlain_any ⟨op, dst, a, b, c, n⟩ _).mono ?_
  rintro e w3 ⟨rfl, hb3⟩
  have z3 := hb3.size
  (try simp at z3)
  have y3_0 : w.heap.size < w3.heap.size := (by omega)
  have y3_1 : w.heap.size + 1 < w3.heap.size := (by omega)
  have y3_2 : w.heap.size + 1 + 1 < w3.heap.size := (by omega)
  have y3_3 : bx1 < w3.heap.size := (by omega)
  have k3_0 := bel_keeps hb3 (b := w.heap.size) (o := 0) (v := .slice a1 rs.length c1) (by first | (go_simp; done) | assumption)
  have k3_1 := bel_keeps hb3 (b := w.heap.size) (o := 1) (v := .slice a2 os.length c2) (by first | (go_simp; done) | assumption)
  have k3_2 := bel_keeps hb3 (b := w.heap.size + 1) (o := 0) (v := .int .i64 op) (by first | (go_simp; done) | assumption)
  have k3_3 := bel_keeps hb3 (b := w.heap.size + 1) (o := 1) (v := .int .i64 dst) (by first | (go_simp; done) | assumption)
  have k3_4 := bel_keeps hb3 (b := w.heap.size + 1) (o := 2) (v := .int .i64 a) (by first | (go_simp; done) | assumption)
  have k3_5 := bel_keeps hb3 (b := w.heap.size + 1) (o := 3) (v := .int .i64 b) (by first | (go_simp; done) | assumption)
  have k3_6 := bel_keeps hb3 (b := w.heap.size + 1) (o := 4) (v := .int .i64 c) (by first | (go_simp; done) | assumption)
  have k3_7 := bel_keeps hb3 (b := w.heap.size + 1) (o := 5) (v := .int .i64 n) (by first | (go_simp; done) | assumption)
  have k3_8 := bel_keeps hb3 (b := w.heap.size + 1 + 1) (o := 0) (v := .slice none 0 0) (by first | (go_simp; done) | assumption)
  have k3_9 := bel_keeps hb3 (b := w.heap.size + 1 + 1) (o := 1) (v := .slice none 0 0) (by first | (go_simp; done) | assumption)
  have k3_10 := bel_keeps hb3 (b := bx1) (o := 0) (v := .slice (some ⟨g11, 0, none⟩) rs.length d11) (by first | (go_simp; done) | assumption)
  have k3_11 := bel_keeps hb3 (b := bx1) (o := 1) (v := .slice (some ⟨g21, 0, none⟩) os.length d21) (by first | (go_simp; done) | assumption)
  have f3_0 := bel_free hb3 (b := w.heap.size + 1 + 1) (o := 0) (by first | omega | (simp; done) | (simp; omega)) (by first | (go_simp; done) | assumption)
  have f3_1 := bel_free hb3 (b := w.heap.size + 1 + 1) (o := 1) (by first | omega | (simp; done) | (simp; omega)) (by first | (go_simp; done) | assumption)
  have f3_2 := bel_free hb3 (b := bx1) (o := 0) (by first | omega | (simp; done) | (simp; omega)) (by first | (go_simp; done) | assumption)
  have f3_3 := bel_free hb3 (b := bx1) (o := 1) (by first | omega | (simp; done) | (simp; omega)) (by first | (go_simp; done) | assumption)
  clear k2_0 k2_1 k2_2 k2_3 k2_4 k2_5 k2_6 k2_7 k2_8 k2_9 k2_10 k2_11 f2_0 f2_1 f2_2 f2_3
  rw [HP.out]
  go_wp2_with fail
  refine (iInputsOk_any rr _ _ _ hMr hml (HRI.out.below (by (repeat (first | with_reducible exact Below.refl _ _ | (with_reducible refine bel_next ?_ ?_ (by assumption)) | (with_reducible refine Below.alloc ?_ ?_ _) | (with_reducible refine Below.drew ?_) | (with_reducible refine below_drewN ?_ _) | (with_reducible refine Below.setCell ?_ ?_ _))) <;> (first | omega | (simp; done) | (simp; omega))))).mono ?_
  rintro e _ ⟨rfl, rfl⟩
  rw [HIN.out]
  go_wp2_with fail
  refine bodyPost_ret (v := .agg #[.slice (some ⟨g11, 0, none⟩) (rs.length) d11, .slice (some ⟨g21, 0, none⟩) (os.length) d21]) (by simp [results, Try.results57, go_sem, k3_8, k3_9, f3_0, f3_1]) rfl ⟨g11, d11, g21, d21, by simp, ?_, ?_, r1_8, ?_⟩
  · simpa using (hO1.out.lo (lo' := w.heap.size) (by omega)).later (by (repeat (first | with_reducible exact Kp.refl _ _ | (with_reducible refine Kp.rng ?_ (by assumption) ?_) | (with_reducible refine Kp.below ?_ (by assumption)) | (with_reducible refine Kp.grown ?_ (by assumption) ?_) | (with_reducible refine Kp.alloc ?_ _) | (with_reducible refine Kp.drew ?_) | (with_reducible refine Kp.drewN ?_ _) | (with_reducible refine Kp.setCell ?_ _ ?_))) <;> (first | omega | (simp; done) | (simp; omega)))
  · simpa using (hO2.out.lo (lo' := w.heap.size) (by omega)).later (by (repeat (first | with_reducible exact Kp.refl _ _ | (with_reducible refine Kp.rng ?_ (by assumption) ?_) | (with_reducible refine Kp.below ?_ (by assumption)) | (with_reducible refine Kp.grown ?_ (by assumption) ?_) | (with_reducible refine Kp.alloc ?_ _) | (with_reducible refine Kp.drew ?_) | (with_reducible refine Kp.drewN ?_ _) | (with_reducible refine Kp.setCell ?_ _ ?_))) <;> (first | omega | (simp; done) | (simp; omega)))
  · exact (by (repeat (first | with_reducible exact Below.refl _ _ | (with_reducible refine bel_next ?_ ?_ (by assumption)) | (with_reducible refine Below.alloc ?_ ?_ _) | (with_reducible refine Below.drew ?_) | (with_reducible refine below_drewN ?_ _) | (with_reducible refine Below.setCell ?_ ?_ _))) <;> (first | omega | (simp; done) | (simp; omega)))
set_option maxRecDepth 20000 in
set_option maxHeartbeats 8000000 in
theorem iStep_const (rs os : List Int) (a1 a2 : Option Addr) (c1 c2 : Nat) (dst a b c n : Int) (rr : List Rw) (ai : Option Addr) (ci : Nat) (w : World) (hm1 : rs.length ≤ 1048576) (hm2 : os.length ≤ 1048576) (hr1 : RdC w a1 (I64 rs)) (hr2 : RdC w a2 (I64 os)) (hmr : rr.length ≤ 1048576) (hml : rowsLe rr) (hri : RdR w ai rr) (h1 : stateOk rs os = true) (h2 : plainB ⟨1, dst, a, b, c, n⟩ = true) (h3 : inputsOk (rr.map Rw.xs) = true) :
    Calls Try.prog 57 #[.agg #[.slice a1 rs.length c1, .slice a2 os.length c2], stV ⟨1, dst, a, b, c, n⟩, .slice ai rr.length ci] w fun e w' => ∃ g1 d1 g2 d2, e = .returned (.agg #[.slice (some ⟨g1, 0, none⟩) (stepRegs rs os ⟨1, dst, a, b, c, n⟩ (rr.map Rw.xs)).length d1, .slice (some ⟨g2, 0, none⟩) (stepOuts rs os ⟨1, dst, a, b, c, n⟩ (rr.map Rw.xs)).length d2]) ∧
      Own w' w.heap.size 3 1 (some ⟨g1, 0, none⟩) (stepRegs rs os ⟨1, dst, a, b, c, n⟩ (rr.map Rw.xs)).length d1 (I64 (stepRegs rs os ⟨1, dst, a, b, c, n⟩ (rr.map Rw.xs))) ∧ Own w' w.heap.size 3 1 (some ⟨g2, 0, none⟩) (stepOuts rs os ⟨1, dst, a, b, c, n⟩ (rr.map Rw.xs)).length d2 (I64 (stepOuts rs os ⟨1, dst, a, b, c, n⟩ (rr.map Rw.xs))) ∧ g1 < g2 ∧ Below w.heap.size w w' := by
  have hM1 : rs.length ≤ maxLen := by unfold maxLen; omega
  have hM2 : os.length ≤ maxLen := by unfold maxLen; omega
  have hMr : rr.length ≤ maxLen := by unfold maxLen; omega
  have HN1 := Lib.hid (rd_none hr1)
  have HN2 := Lib.hid (rd_none hr2)
  have HR1 := Lib.hid hr1
  have HR2 := Lib.hid hr2
  have HRI := Lib.hid hri
  clear hr1 hr2 hri
  have hB : stepB ⟨1, dst, a, b, c, n⟩ rs os (rr.map Rw.xs) = true := by simp [stepB, h1, h2, h3]
  have hst : stOk ⟨1, dst, a, b, c, n⟩ = true := by have h := h2; simp [plainB] at h; first | exact h | exact h.1
  
  have hh := stok_regs hst
  simp only at hh
  obtain ⟨o1, o13, r0, r1, r2, r3, r4, r5, r6, r7⟩ := hh
  have h8 := stateOk_len h1
  have h5 := inputs_len h3
  obtain ⟨v, hv⟩ : ∃ v, v = stepVal ⟨1, dst, a, b, c, n⟩ rs (rr.map Rw.xs) := ⟨_, rfl⟩
  have e1 : (stepRegs rs os ⟨1, dst, a, b, c, n⟩ (rr.map Rw.xs)) = rs.set dst.toNat v := by simp [stepRegs, hB, hv]
  have e2 : (stepOuts rs os ⟨1, dst, a, b, c, n⟩ (rr.map Rw.xs)) = os := by simp [stepOuts]
  have hv2 : v = n := by rw [hv]; simp [stepVal]
  clear hv
  rw [e1, e2]
  clear hB e1 e2
  have H8 := Lib.hid h8
  have H5 := Lib.hid h5
  have HST := Lib.hid h1
  have HP := Lib.hid h2
  have HIN := Lib.hid h3
  clear h1 h2 h3 hst h8 h5
  rw [hv2]
  have hdt : dst.toNat < rs.length := by have := H8.out; omega
  have hd8 : dst < (rs.length : Int) := by have := H8.out; omega
  unfold stV
  go_enter Try.func57, Try.ntmps57
  go_wp2_with fail
  obtain ⟨w0, hw0⟩ : ∃ W, W = ((w.alloc (.cells #[.slice a1 rs.length c1, .slice a2 os.length c2] 57)).alloc (.cells #[.int .i64 1, .int .i64 dst, .int .i64 a, .int .i64 b, .int .i64 c, .int .i64 n] 38)).alloc (.cells #[.slice none 0 0, .slice none 0 0] 57) := ⟨_, rfl⟩
  rw [← hw0]
  have hb0 : Below w.heap.size w w0 := by rw [hw0]; exact (by (repeat (first | with_reducible exact Below.refl _ _ | (with_reducible refine bel_next ?_ ?_ (by assumption)) | (with_reducible refine Below.alloc ?_ ?_ _) | (with_reducible refine Below.drew ?_) | (with_reducible refine below_drewN ?_ _) | (with_reducible refine Below.setCell ?_ ?_ _))) <;> (first | omega | (simp; done) | (simp; omega)))
  have z0 : w.heap.size + 1 + 1 < w0.heap.size := by rw [hw0]; simp
  have k0_0 : w0.cell? ⟨w.heap.size, 0, none⟩ = some (.slice a1 rs.length c1) := by rw [hw0]; go_simp
  have k0_1 : w0.cell? ⟨w.heap.size, 1, none⟩ = some (.slice a2 os.length c2) := by rw [hw0]; go_simp
  have k0_2 : w0.cell? ⟨w.heap.size + 1, 0, none⟩ = some (.int .i64 1) := by rw [hw0]; go_simp
  have k0_3 : w0.cell? ⟨w.heap.size + 1, 1, none⟩ = some (.int .i64 dst) := by rw [hw0]; go_simp
  have k0_4 : w0.cell? ⟨w.heap.size + 1, 2, none⟩ = some (.int .i64 a) := by rw [hw0]; go_simp
  have k0_5 : w0.cell? ⟨w.heap.size + 1, 3, none⟩ = some (.int .i64 b) := by rw [hw0]; go_simp
  have k0_6 : w0.cell? ⟨w.heap.size + 1, 4, none⟩ = some (.int .i64 c) := by rw [hw0]; go_simp
  have k0_7 : w0.cell? ⟨w.heap.size + 1, 5, none⟩ = some (.int .i64 n) := by rw [hw0]; go_simp
  have k0_8 : w0.cell? ⟨w.heap.size + 1 + 1, 0, none⟩ = some (.slice none 0 0) := by rw [hw0]; go_simp
  have k0_9 : w0.cell? ⟨w.heap.size + 1 + 1, 1, none⟩ = some (.slice none 0 0) := by rw [hw0]; go_simp
  have f0_0 : w0.frozen? ⟨w.heap.size + 1 + 1, 0, none⟩ = false := by rw [hw0]; go_simp
  have f0_1 : w0.frozen? ⟨w.heap.size + 1 + 1, 1, none⟩ = false := by rw [hw0]; go_simp
  clear hw0
  go_wp2_with fail
  apply wp_share5 (F := fun W bx1 g11 d11 g21 d21 => Below w0.heap.size w0 W ∧ W.cell? ⟨bx1, 0, none⟩ = some (.slice (some ⟨g11, 0, none⟩) rs.length d11) ∧ W.cell? ⟨bx1, 1, none⟩ = some (.slice (some ⟨g21, 0, none⟩) os.length d21) ∧ w0.heap.size ≤ bx1 ∧ bx1 < W.heap.size ∧ W.frozen? ⟨bx1, 0, none⟩ = false ∧ W.frozen? ⟨bx1, 1, none⟩ = false ∧ Own W w0.heap.size 3 1 (some ⟨g11, 0, none⟩) rs.length d11 (I64 rs) ∧ Own W w0.heap.size 3 1 (some ⟨g21, 0, none⟩) os.length d21 (I64 os) ∧ g11 < g21 ∧ bx1 ≠ g11 ∧ bx1 ≠ g21 ∧ True)
  case h1 =>
    have a0_1 : w0.heap.size ≠ 0 ∨ True := .inr trivial
    have n1_49 : w.heap.size ≠ w0.heap.size := (by omega)
    have n1_49a : w0.heap.size ≠ w.heap.size := (by omega)
    have n1_51 : w.heap.size + 1 ≠ w0.heap.size := (by omega)
    have n1_51a : w0.heap.size ≠ w.heap.size + 1 := (by omega)
    have n1_53 : w.heap.size + 1 + 1 ≠ w0.heap.size := (by omega)
    have n1_53a : w0.heap.size ≠ w.heap.size + 1 + 1 := (by omega)
    go_region_held3 (fun w' => w'.cell? ⟨w.heap.size, 0, none⟩ = some (.slice a1 rs.length c1) ∧ w'.cell? ⟨w.heap.size, 1, none⟩ = some (.slice a2 os.length c2))
      (first | go_keep)
      (first | (go_at_call 90; refine (ints_any rs a1 c1 _ (by omega) (HR1.out.below (by (repeat (first | with_reducible exact Below.refl _ _ | (with_reducible refine bel_next ?_ ?_ (by assumption)) | (with_reducible refine Below.alloc ?_ ?_ _) | (with_reducible refine Below.drew ?_) | (with_reducible refine below_drewN ?_ _) | (with_reducible refine Below.setCell ?_ ?_ _))) <;> (first | omega | (simp; done) | (simp; omega))))).mono ?_; rintro e v1 ⟨g11, d11, rfl, ho1, _, _, hv1⟩; have zv1 := hv1.size; (try simp at zv1); have ge1 := ho1.ge; (try simp at ge1); have yv1_0 : w.heap.size < v1.heap.size := (by omega); have nv1_0 : w.heap.size ≠ v1.heap.size := (by omega); have mv1_0 : v1.heap.size ≠ w.heap.size := (by omega); have kv1_0 := bel_keeps hv1 (b := w.heap.size) (o := 0) (v := .slice a1 rs.length c1) (by first | (go_simp; done) | assumption); have kv1_1 := bel_keeps hv1 (b := w.heap.size) (o := 1) (v := .slice a2 os.length c2) (by first | (go_simp; done) | assumption); (try have yc1_0 : w0.heap.size < v1.heap.size := (by omega)); (try have bc1_00 := bel_keeps hv1 (b := w0.heap.size) (o := 0) (v := .slice none 0 0) (by first | (go_simp; done) | assumption)); (try have qc1_00 := bel_free hv1 (b := w0.heap.size) (o := 0) (by first | omega | (simp; done) | (simp; omega)) (by first | (go_simp; done) | assumption)); (try have bc1_01 := bel_keeps hv1 (b := w0.heap.size) (o := 1) (v := .slice none 0 0) (by first | (go_simp; done) | assumption)); (try have qc1_01 := bel_free hv1 (b := w0.heap.size) (o := 1) (by first | omega | (simp; done) | (simp; omega)) (by first | (go_simp; done) | assumption))) | (go_at_call 90; refine (ints_any os a2 c2 _ (by omega) (HR2.out.below (by (repeat (first | with_reducible exact Below.refl _ _ | (with_reducible refine bel_next ?_ ?_ (by assumption)) | (with_reducible refine Below.alloc ?_ ?_ _) | (with_reducible refine Below.drew ?_) | (with_reducible refine below_drewN ?_ _) | (with_reducible refine Below.setCell ?_ ?_ _))) <;> (first | omega | (simp; done) | (simp; omega))))).mono ?_; rintro e v2 ⟨g21, d21, rfl, ho2, _, _, hv2⟩; have zv2 := hv2.size; (try simp at zv2); have ge2 := ho2.ge; (try simp at ge2); have yv2_0 : w.heap.size < v2.heap.size := (by omega); have nv2_0 : w.heap.size ≠ v2.heap.size := (by omega); have mv2_0 : v2.heap.size ≠ w.heap.size := (by omega); have kv2_0 := bel_keeps hv2 (b := w.heap.size) (o := 0) (v := .slice a1 rs.length c1) (by first | (go_simp; done) | assumption); have kv2_1 := bel_keeps hv2 (b := w.heap.size) (o := 1) (v := .slice a2 os.length c2) (by first | (go_simp; done) | assumption); (try have yc2_0 : w0.heap.size < v2.heap.size := (by omega)); (try have bc2_00 := bel_keeps hv2 (b := w0.heap.size) (o := 0) (v := .slice none 0 0) (by first | (go_simp; done) | assumption)); (try have qc2_00 := bel_free hv2 (b := w0.heap.size) (o := 0) (by first | omega | (simp; done) | (simp; omega)) (by first | (go_simp; done) | assumption)); (try have bc2_01 := bel_keeps hv2 (b := w0.heap.size) (o := 1) (v := .slice none 0 0) (by first | (go_simp; done) | assumption)); (try have qc2_01 := bel_free hv2 (b := w0.heap.size) (o := 1) (by first | omega | (simp; done) | (simp; omega)) (by first | (go_simp; done) | assumption)); (try have yc2_1 : v1.heap.size < v2.heap.size := (by omega)); (try have bc2_10 := bel_keeps hv2 (b := v1.heap.size) (o := 0) (v := .slice none 0 0) (by first | (go_simp; done) | assumption)); (try have qc2_10 := bel_free hv2 (b := v1.heap.size) (o := 0) (by first | omega | (simp; done) | (simp; omega)) (by first | (go_simp; done) | assumption)); (try have bc2_11 := bel_keeps hv2 (b := v1.heap.size) (o := 1) (v := .slice none 0 0) (by first | (go_simp; done) | assumption)); (try have qc2_11 := bel_free hv2 (b := v1.heap.size) (o := 1) (by first | omega | (simp; done) | (simp; omega)) (by first | (go_simp; done) | assumption))))
    ·
      refine ⟨rfl, v2.heap.size, g11, d11, g21, d21, ⟨(by (repeat (first | with_reducible exact Below.refl _ _ | (with_reducible refine bel_next ?_ ?_ (by assumption)) | (with_reducible refine Below.alloc ?_ ?_ _) | (with_reducible refine Below.drew ?_) | (with_reducible refine below_drewN ?_ _) | (with_reducible refine Below.setCell ?_ ?_ _))) <;> (first | omega | (simp; done) | (simp; omega))), (by first | (go_simp; done) | assumption), (by first | (go_simp; done) | assumption), (by first | omega | (simp; done) | (simp; omega)), (by first | omega | (simp [World.setCell]; done) | (simp [World.setCell]; omega)), (by first | (go_simp; done) | assumption), (by first | (go_simp; done) | assumption), (ho1.lo (by first | omega | (simp; done) | (simp; omega))).later (by (repeat (first | with_reducible exact Kp.refl _ _ | (with_reducible refine Kp.rng ?_ (by assumption) ?_) | (with_reducible refine Kp.below ?_ (by assumption)) | (with_reducible refine Kp.grown ?_ (by assumption) ?_) | (with_reducible refine Kp.alloc ?_ _) | (with_reducible refine Kp.drew ?_) | (with_reducible refine Kp.drewN ?_ _) | (with_reducible refine Kp.setCell ?_ _ ?_))) <;> (first | omega | (simp; done) | (simp; omega))), (ho2.lo (by first | omega | (simp; done) | (simp; omega))).later (by (repeat (first | with_reducible exact Kp.refl _ _ | (with_reducible refine Kp.rng ?_ (by assumption) ?_) | (with_reducible refine Kp.below ?_ (by assumption)) | (with_reducible refine Kp.grown ?_ (by assumption) ?_) | (with_reducible refine Kp.alloc ?_ _) | (with_reducible refine Kp.drew ?_) | (with_reducible refine Kp.drewN ?_ _) | (with_reducible refine Kp.setCell ?_ _ ?_))) <;> (first | omega | (simp; done) | (simp; omega))), (by first | omega | (simp; done) | (simp; omega)), (by first | omega | (simp; done) | (simp; omega)), (by first | omega | (simp; done) | (simp; omega)), trivial⟩, ?_⟩
      generalize (v2.alloc (.cells #[.slice (some ⟨g11, 0, none⟩) rs.length d11, .slice (some ⟨g21, 0, none⟩) os.length d21] 57)) = W
      generalize v2.heap.size = bx
      rfl
    ·
      refine ⟨rfl, v1.heap.size, g11, d11, g21, d21, ⟨(by (repeat (first | with_reducible exact Below.refl _ _ | (with_reducible refine bel_next ?_ ?_ (by assumption)) | (with_reducible refine Below.alloc ?_ ?_ _) | (with_reducible refine Below.drew ?_) | (with_reducible refine below_drewN ?_ _) | (with_reducible refine Below.setCell ?_ ?_ _))) <;> (first | omega | (simp; done) | (simp; omega))), (by first | (go_simp; done) | assumption), (by first | (go_simp; done) | assumption), (by first | omega | (simp; done) | (simp; omega)), (by first | omega | (simp [World.setCell]; done) | (simp [World.setCell]; omega)), (by first | (go_simp; done) | assumption), (by first | (go_simp; done) | assumption), (ho1.lo (by first | omega | (simp; done) | (simp; omega))).later (by (repeat (first | with_reducible exact Kp.refl _ _ | (with_reducible refine Kp.rng ?_ (by assumption) ?_) | (with_reducible refine Kp.below ?_ (by assumption)) | (with_reducible refine Kp.grown ?_ (by assumption) ?_) | (with_reducible refine Kp.alloc ?_ _) | (with_reducible refine Kp.drew ?_) | (with_reducible refine Kp.drewN ?_ _) | (with_reducible refine Kp.setCell ?_ _ ?_))) <;> (first | omega | (simp; done) | (simp; omega))), (ho2.lo (by first | omega | (simp; done) | (simp; omega))).later (by (repeat (first | with_reducible exact Kp.refl _ _ | (with_reducible refine Kp.rng ?_ (by assumption) ?_) | (with_reducible refine Kp.below ?_ (by assumption)) | (with_reducible refine Kp.grown ?_ (by assumption) ?_) | (with_reducible refine Kp.alloc ?_ _) | (with_reducible refine Kp.drew ?_) | (with_reducible refine Kp.drewN ?_ _) | (with_reducible refine Kp.setCell ?_ _ ?_))) <;> (first | omega | (simp; done) | (simp; omega))), (by first | omega | (simp; done) | (simp; omega)), (by first | omega | (simp; done) | (simp; omega)), (by first | omega | (simp; done) | (simp; omega)), trivial⟩, ?_⟩
      generalize (World.setCell (World.setCell v2 ⟨v1.heap.size, 0, none⟩ (.slice (some ⟨g11, 0, none⟩) rs.length d11)) ⟨v1.heap.size, 1, none⟩ (.slice (some ⟨g21, 0, none⟩) os.length d21)) = W
      generalize v1.heap.size = bx
      rfl
    ·
      refine ⟨rfl, w0.heap.size, g11, d11, g21, d21, ⟨(by (repeat (first | with_reducible exact Below.refl _ _ | (with_reducible refine bel_next ?_ ?_ (by assumption)) | (with_reducible refine Below.alloc ?_ ?_ _) | (with_reducible refine Below.drew ?_) | (with_reducible refine below_drewN ?_ _) | (with_reducible refine Below.setCell ?_ ?_ _))) <;> (first | omega | (simp; done) | (simp; omega))), (by first | (go_simp; done) | assumption), (by first | (go_simp; done) | assumption), (by first | omega | (simp; done) | (simp; omega)), (by first | omega | (simp [World.setCell]; done) | (simp [World.setCell]; omega)), (by first | (go_simp; done) | assumption), (by first | (go_simp; done) | assumption), (ho1.lo (by first | omega | (simp; done) | (simp; omega))).later (by (repeat (first | with_reducible exact Kp.refl _ _ | (with_reducible refine Kp.rng ?_ (by assumption) ?_) | (with_reducible refine Kp.below ?_ (by assumption)) | (with_reducible refine Kp.grown ?_ (by assumption) ?_) | (with_reducible refine Kp.alloc ?_ _) | (with_reducible refine Kp.drew ?_) | (with_reducible refine Kp.drewN ?_ _) | (with_reducible refine Kp.setCell ?_ _ ?_))) <;> (first | omega | (simp; done) | (simp; omega))), (ho2.lo (by first | omega | (simp; done) | (simp; omega))).later (by (repeat (first | with_reducible exact Kp.refl _ _ | (with_reducible refine Kp.rng ?_ (by assumption) ?_) | (with_reducible refine Kp.below ?_ (by assumption)) | (with_reducible refine Kp.grown ?_ (by assumption) ?_) | (with_reducible refine Kp.alloc ?_ _) | (with_reducible refine Kp.drew ?_) | (with_reducible refine Kp.drewN ?_ _) | (with_reducible refine Kp.setCell ?_ _ ?_))) <;> (first | omega | (simp; done) | (simp; omega))), (by first | omega | (simp; done) | (simp; omega)), (by first | omega | (simp; done) | (simp; omega)), (by first | omega | (simp; done) | (simp; omega)), trivial⟩, ?_⟩
      generalize (World.setCell (World.setCell v2 ⟨w0.heap.size, 0, none⟩ (.slice (some ⟨g11, 0, none⟩) rs.length d11)) ⟨w0.heap.size, 1, none⟩ (.slice (some ⟨g21, 0, none⟩) os.length d21)) = W
      generalize w0.heap.size = bx
      rfl
  rintro w1 bx1 g11 d11 g21 d21 ⟨hb1, r1_0, r1_1, r1_2, r1_3, r1_4, r1_5, r1_6, r1_7, r1_8, r1_9, r1_10, r1_11⟩
  have z1 := hb1.size
  (try simp at z1)
  have y1_0 : w.heap.size < w1.heap.size := (by omega)
  have y1_1 : w.heap.size + 1 < w1.heap.size := (by omega)
  have y1_2 : w.heap.size + 1 + 1 < w1.heap.size := (by omega)
  have k1_0 := bel_keeps hb1 (b := w.heap.size) (o := 0) (v := .slice a1 rs.length c1) (by first | (go_simp; done) | assumption)
  have k1_1 := bel_keeps hb1 (b := w.heap.size) (o := 1) (v := .slice a2 os.length c2) (by first | (go_simp; done) | assumption)
  have k1_2 := bel_keeps hb1 (b := w.heap.size + 1) (o := 0) (v := .int .i64 1) (by first | (go_simp; done) | assumption)
  have k1_3 := bel_keeps hb1 (b := w.heap.size + 1) (o := 1) (v := .int .i64 dst) (by first | (go_simp; done) | assumption)
  have k1_4 := bel_keeps hb1 (b := w.heap.size + 1) (o := 2) (v := .int .i64 a) (by first | (go_simp; done) | assumption)
  have k1_5 := bel_keeps hb1 (b := w.heap.size + 1) (o := 3) (v := .int .i64 b) (by first | (go_simp; done) | assumption)
  have k1_6 := bel_keeps hb1 (b := w.heap.size + 1) (o := 4) (v := .int .i64 c) (by first | (go_simp; done) | assumption)
  have k1_7 := bel_keeps hb1 (b := w.heap.size + 1) (o := 5) (v := .int .i64 n) (by first | (go_simp; done) | assumption)
  have k1_8 := bel_keeps hb1 (b := w.heap.size + 1 + 1) (o := 0) (v := .slice none 0 0) (by first | (go_simp; done) | assumption)
  have k1_9 := bel_keeps hb1 (b := w.heap.size + 1 + 1) (o := 1) (v := .slice none 0 0) (by first | (go_simp; done) | assumption)
  have f1_0 := bel_free hb1 (b := w.heap.size + 1 + 1) (o := 0) (by first | omega | (simp; done) | (simp; omega)) (by first | (go_simp; done) | assumption)
  have f1_1 := bel_free hb1 (b := w.heap.size + 1 + 1) (o := 1) (by first | omega | (simp; done) | (simp; omega)) (by first | (go_simp; done) | assumption)
  clear k0_0 k0_1 k0_2 k0_3 k0_4 k0_5 k0_6 k0_7 k0_8 k0_9 f0_0 f0_1
  have hO1 := Lib.hid r1_6
  have hO2 := Lib.hid r1_7
  have lg1 := r1_6.ge
  have lg2 := r1_7.ge
  clear r1_6 r1_7
  go_wp2_with fail
  refine (iStateOk_any rs os _ _ _ _ _ hM1 hM2 (HR1.out.below (by (repeat (first | with_reducible exact Below.refl _ _ | (with_reducible refine bel_next ?_ ?_ (by assumption)) | (with_reducible refine Below.alloc ?_ ?_ _) | (with_reducible refine Below.drew ?_) | (with_reducible refine below_drewN ?_ _) | (with_reducible refine Below.setCell ?_ ?_ _))) <;> (first | omega | (simp; done) | (simp; omega)))) (HR2.out.below (by (repeat (first | with_reducible exact Below.refl _ _ | (with_reducible refine bel_next ?_ ?_ (by assumption)) | (with_reducible refine Below.alloc ?_ ?_ _) | (with_reducible refine Below.drew ?_) | (with_reducible refine below_drewN ?_ _) | (with_reducible refine Below.setCell ?_ ?_ _))) <;> (first | omega | (simp; done) | (simp; omega))))).mono ?_
  rintro e w2 ⟨rfl, hb2⟩
  have z2 := hb2.size
  (try simp at z2)
  have y2_0 : w.heap.size < w2.heap.size := (by omega)
  have y2_1 : w.heap.size + 1 < w2.heap.size := (by omega)
  have y2_2 : w.heap.size + 1 + 1 < w2.heap.size := (by omega)
  have y2_3 : bx1 < w2.heap.size := (by omega)
  have k2_0 := bel_keeps hb2 (b := w.heap.size) (o := 0) (v := .slice a1 rs.length c1) (by first | (go_simp; done) | assumption)
  have k2_1 := bel_keeps hb2 (b := w.heap.size) (o := 1) (v := .slice a2 os.length c2) (by first | (go_simp; done) | assumption)
  have k2_2 := bel_keeps hb2 (b := w.heap.size + 1) (o := 0) (v := .int .i64 1) (by first | (go_simp; done) | assumption)
  have k2_3 := bel_keeps hb2 (b := w.heap.size + 1) (o := 1) (v := .int .i64 dst) (by first | (go_simp; done) | assumption)
  have k2_4 := bel_keeps hb2 (b := w.heap.size + 1) (o := 2) (v := .int .i64 a) (by first | (go_simp; done) | assumption)
  have k2_5 := bel_keeps hb2 (b := w.heap.size + 1) (o := 3) (v := .int .i64 b) (by first | (go_simp; done) | assumption)
  have k2_6 := bel_keeps hb2 (b := w.heap.size + 1) (o := 4) (v := .int .i64 c) (by first | (go_simp; done) | assumption)
  have k2_7 := bel_keeps hb2 (b := w.heap.size + 1) (o := 5) (v := .int .i64 n) (by first | (go_simp; done) | assumption)
  have k2_8 := bel_keeps hb2 (b := w.heap.size + 1 + 1) (o := 0) (v := .slice none 0 0) (by first | (go_simp; done) | assumption)
  have k2_9 := bel_keeps hb2 (b := w.heap.size + 1 + 1) (o := 1) (v := .slice none 0 0) (by first | (go_simp; done) | assumption)
  have k2_10 := bel_keeps hb2 (b := bx1) (o := 0) (v := .slice (some ⟨g11, 0, none⟩) rs.length d11) (by first | (go_simp; done) | assumption)
  have k2_11 := bel_keeps hb2 (b := bx1) (o := 1) (v := .slice (some ⟨g21, 0, none⟩) os.length d21) (by first | (go_simp; done) | assumption)
  have f2_0 := bel_free hb2 (b := w.heap.size + 1 + 1) (o := 0) (by first | omega | (simp; done) | (simp; omega)) (by first | (go_simp; done) | assumption)
  have f2_1 := bel_free hb2 (b := w.heap.size + 1 + 1) (o := 1) (by first | omega | (simp; done) | (simp; omega)) (by first | (go_simp; done) | assumption)
  have f2_2 := bel_free hb2 (b := bx1) (o := 0) (by first | omega | (simp; done) | (simp; omega)) (by first | (go_simp; done) | assumption)
  have f2_3 := bel_free hb2 (b := bx1) (o := 1) (by first | omega | (simp; done) | (simp; omega)) (by first | (go_simp; done) | assumption)
  clear k1_0 k1_1 k1_2 k1_3 k1_4 k1_5 k1_6 k1_7 k1_8 k1_9 r1_0 r1_1 f1_0 f1_1 r1_4 r1_5
  rw [HST.out]
  go_wp2_with fail
  refine (isPlain_any ⟨1, dst, a, b, c, n⟩ _).mono ?_
  rintro e w3 ⟨rfl, hb3⟩
  have z3 := hb3.size
  (try simp at z3)
  have y3_0 : w.heap.size < w3.heap.size := (by omega)
  have y3_1 : w.heap.size + 1 < w3.heap.size := (by omega)
  have y3_2 : w.heap.size + 1 + 1 < w3.heap.size := (by omega)
  have y3_3 : bx1 < w3.heap.size := (by omega)
  have k3_0 := bel_keeps hb3 (b := w.heap.size) (o := 0) (v := .slice a1 rs.length c1) (by first | (go_simp; done) | assumption)
  have k3_1 := bel_keeps hb3 (b := w.heap.size) (o := 1) (v := .slice a2 os.length c2) (by first | (go_simp; done) | assumption)
  have k3_2 := bel_keeps hb3 (b := w.heap.size + 1) (o := 0) (v := .int .i64 1) (by first | (go_simp; done) | assumption)
  have k3_3 := bel_keeps hb3 (b := w.heap.size + 1) (o := 1) (v := .int .i64 dst) (by first | (go_simp; done) | assumption)
  have k3_4 := bel_keeps hb3 (b := w.heap.size + 1) (o := 2) (v := .int .i64 a) (by first | (go_simp; done) | assumption)
  have k3_5 := bel_keeps hb3 (b := w.heap.size + 1) (o := 3) (v := .int .i64 b) (by first | (go_simp; done) | assumption)
  have k3_6 := bel_keeps hb3 (b := w.heap.size + 1) (o := 4) (v := .int .i64 c) (by first | (go_simp; done) | assumption)
  have k3_7 := bel_keeps hb3 (b := w.heap.size + 1) (o := 5) (v := .int .i64 n) (by first | (go_simp; done) | assumption)
  have k3_8 := bel_keeps hb3 (b := w.heap.size + 1 + 1) (o := 0) (v := .slice none 0 0) (by first | (go_simp; done) | assumption)
  have k3_9 := bel_keeps hb3 (b := w.heap.size + 1 + 1) (o := 1) (v := .slice none 0 0) (by first | (go_simp; done) | assumption)
  have k3_10 := bel_keeps hb3 (b := bx1) (o := 0) (v := .slice (some ⟨g11, 0, none⟩) rs.length d11) (by first | (go_simp; done) | assumption)
  have k3_11 := bel_keeps hb3 (b := bx1) (o := 1) (v := .slice (some ⟨g21, 0, none⟩) os.length d21) (by first | (go_simp; done) | assumption)
  have f3_0 := bel_free hb3 (b := w.heap.size + 1 + 1) (o := 0) (by first | omega | (simp; done) | (simp; omega)) (by first | (go_simp; done) | assumption)
  have f3_1 := bel_free hb3 (b := w.heap.size + 1 + 1) (o := 1) (by first | omega | (simp; done) | (simp; omega)) (by first | (go_simp; done) | assumption)
  have f3_2 := bel_free hb3 (b := bx1) (o := 0) (by first | omega | (simp; done) | (simp; omega)) (by first | (go_simp; done) | assumption)
  have f3_3 := bel_free hb3 (b := bx1) (o := 1) (by first | omega | (simp; done) | (simp; omega)) (by first | (go_simp; done) | assumption)
  clear k2_0 k2_1 k2_2 k2_3 k2_4 k2_5 k2_6 k2_7 k2_8 k2_9 k2_10 k2_11 f2_0 f2_1 f2_2 f2_3
  rw [HP.out]
  go_wp2_with fail
  refine (iInputsOk_any rr _ _ _ hMr hml (HRI.out.below (by (repeat (first | with_reducible exact Below.refl _ _ | (with_reducible refine bel_next ?_ ?_ (by assumption)) | (with_reducible refine Below.alloc ?_ ?_ _) | (with_reducible refine Below.drew ?_) | (with_reducible refine below_drewN ?_ _) | (with_reducible refine Below.setCell ?_ ?_ _))) <;> (first | omega | (simp; done) | (simp; omega))))).mono ?_
  rintro e _ ⟨rfl, rfl⟩
  rw [HIN.out]
  obtain ⟨ca, fa⟩ := (show Own w3 _ _ _ _ _ _ _ from hO1.out.later (by (repeat (first | with_reducible exact Kp.refl _ _ | (with_reducible refine Kp.rng ?_ (by assumption) ?_) | (with_reducible refine Kp.below ?_ (by assumption)) | (with_reducible refine Kp.grown ?_ (by assumption) ?_) | (with_reducible refine Kp.alloc ?_ _) | (with_reducible refine Kp.drew ?_) | (with_reducible refine Kp.drewN ?_ _) | (with_reducible refine Kp.setCell ?_ _ ?_))) <;> (first | omega | (simp; done) | (simp; omega)))).get dst.toNat (by simp; exact hdt)
  generalize (I64 rs)[dst.toNat]'_ = u at ca
  have nq0 : w.heap.size ≠ g11 := (by omega)
  have np0 : g11 ≠ w.heap.size := (by omega)
  have nq1 : w.heap.size + 1 ≠ g11 := (by omega)
  have np1 : g11 ≠ w.heap.size + 1 := (by omega)
  have nq2 : w.heap.size + 1 + 1 ≠ g11 := (by omega)
  have np2 : g11 ≠ w.heap.size + 1 + 1 := (by omega)
  have nq3 : bx1 ≠ g11 := (by omega)
  have np3 : g11 ≠ bx1 := (by omega)
  go_wp2_with fail
  refine bodyPost_ret (v := .agg #[.slice (some ⟨g11, 0, none⟩) (rs.length) d11, .slice (some ⟨g21, 0, none⟩) (os.length) d21]) (by simp [results, Try.results57, go_sem, k3_8, k3_9, f3_0, f3_1]) rfl ⟨g11, d11, g21, d21, by simp, ?_, ?_, r1_8, ?_⟩
  · have o := (((show Own w3 _ _ _ _ _ _ _ from hO1.out.later (by (repeat (first | with_reducible exact Kp.refl _ _ | (with_reducible refine Kp.rng ?_ (by assumption) ?_) | (with_reducible refine Kp.below ?_ (by assumption)) | (with_reducible refine Kp.grown ?_ (by assumption) ?_) | (with_reducible refine Kp.alloc ?_ _) | (with_reducible refine Kp.drew ?_) | (with_reducible refine Kp.drewN ?_ _) | (with_reducible refine Kp.setCell ?_ _ ?_))) <;> (first | omega | (simp; done) | (simp; omega))))).put dst.toNat (.int .i64 n)).lo (lo' := w.heap.size) (by omega)
    rw [I64_set] at o
    simpa using o.later (by (repeat (first | with_reducible exact Kp.refl _ _ | (with_reducible refine Kp.rng ?_ (by assumption) ?_) | (with_reducible refine Kp.below ?_ (by assumption)) | (with_reducible refine Kp.grown ?_ (by assumption) ?_) | (with_reducible refine Kp.alloc ?_ _) | (with_reducible refine Kp.drew ?_) | (with_reducible refine Kp.drewN ?_ _) | (with_reducible refine Kp.setCell ?_ _ ?_))) <;> (first | omega | (simp; done) | (simp; omega)))
  · simpa using (hO2.out.lo (lo' := w.heap.size) (by omega)).later (by (repeat (first | with_reducible exact Kp.refl _ _ | (with_reducible refine Kp.rng ?_ (by assumption) ?_) | (with_reducible refine Kp.below ?_ (by assumption)) | (with_reducible refine Kp.grown ?_ (by assumption) ?_) | (with_reducible refine Kp.alloc ?_ _) | (with_reducible refine Kp.drew ?_) | (with_reducible refine Kp.drewN ?_ _) | (with_reducible refine Kp.setCell ?_ _ ?_))) <;> (first | omega | (simp; done) | (simp; omega)))
  · exact (by (repeat (first | with_reducible exact Below.refl _ _ | (with_reducible refine bel_next ?_ ?_ (by assumption)) | (with_reducible refine Below.alloc ?_ ?_ _) | (with_reducible refine Below.drew ?_) | (with_reducible refine below_drewN ?_ _) | (with_reducible refine Below.setCell ?_ ?_ _))) <;> (first | omega | (simp; done) | (simp; omega)))
end Go.Proofs.Ytfeffofoofmgcaa

/- A drawn statement. -/
import Derived.Test.YtigefmobejclaaaDoorDraw
import Derived.Test.YtigefmobejclaaaDoorSStmt
import Derived.Test.YtigefmobejclaaaDoorReads
namespace Go.Proofs.YtigefmobejclaaaDoor
open Go.RowKit
set_option linter.unusedVariables false
set_option linter.unusedSimpArgs false

theorem Kp.of_lt {b : Nat} {w w' : World} (h : b < w.heap.size → Kp b w w') : Kp b w w' := fun hb => h hb hb
set_option maxHeartbeats 1000000 in
theorem once_dr (g : Nat) (xs : List Int) (ad : Option Addr) (c : Nat) (n : Int) (w : World) (hd : Dr w g xs ad c) :
    Calls Tryd.prog 66 #[.pointer (some ⟨g, 0, none⟩), .int .i64 n] w fun e w' => ∃ b : Bool, e = .returned (.bool b) ∧ Dr w' g xs ad c ∧ Only g w w' := by
  go_enter Tryd.func66, Tryd.ntmps66
  go_wp2_with fail
  refine (below_dr g xs ad c n _ hd).mono ?_
  rintro e w1 ⟨v, rfl, _, _, _, hd1, ho1⟩
  go_wp2_with fail
  go_ret
  exact ⟨_, rfl, hd1, ho1⟩
def plain1 (s : St) : Prop := stOk s = true ∧ s.op ≠ 12 ∧ s.op ≠ 13

set_option maxRecDepth 20000 in
set_option maxHeartbeats 8000000 in
theorem l08Stmt_dr (g : Nat) (xs : List Int) (ad : Option Addr) (c : Nat) (w : World) (hd : Dr w g xs ad c) :
    Calls Tryd.prog 67 #[.pointer (some ⟨g, 0, none⟩)] w fun e w' => ∃ s, e = .returned (stV s) ∧ plain1 s ∧ Dr w' g xs ad c ∧ Only g w w' := by
  have hgt := hd.gt
  go_enter Tryd.func67, Tryd.ntmps67
  go_wp2_with fail
  refine (below_dr g xs ad c 4 _ (hd.keep fun q hq => (by (repeat (first | with_reducible exact Kp.refl _ _ | (with_reducible refine Kp.rng ?_ (by assumption) ?_) | (with_reducible refine Kp.below ?_ (by assumption)) | (with_reducible refine Kp.grown ?_ (by assumption) ?_) | (with_reducible refine Kp.alloc ?_ _) | (with_reducible refine Kp.drew ?_) | (with_reducible refine Kp.drewN ?_ _) | (with_reducible refine Kp.setCell ?_ _ ?_))) <;> (first | omega | (simp; done) | (simp; omega))))).mono ?_
  rintro e w1 ⟨vd, rfl, vd0, vd1, _, hd1, ob1, or1⟩
  have vd1 := vd1 (by omega)
  have z1 := ob1.size
  (try simp at z1)
  have y1_0 : w.heap.size < w1.heap.size := (by omega)
  have k1_0 : w1.cell? ⟨w.heap.size, 0, none⟩ = some (.int .i64 0) := or1.keeps (by omega) (by first | (go_simp; done) | assumption)
  have k1_1 : w1.cell? ⟨w.heap.size, 1, none⟩ = some (.int .i64 0) := or1.keeps (by omega) (by first | (go_simp; done) | assumption)
  have k1_2 : w1.cell? ⟨w.heap.size, 2, none⟩ = some (.int .i64 0) := or1.keeps (by omega) (by first | (go_simp; done) | assumption)
  have k1_3 : w1.cell? ⟨w.heap.size, 3, none⟩ = some (.int .i64 0) := or1.keeps (by omega) (by first | (go_simp; done) | assumption)
  have k1_4 : w1.cell? ⟨w.heap.size, 4, none⟩ = some (.int .i64 0) := or1.keeps (by omega) (by first | (go_simp; done) | assumption)
  have k1_5 : w1.cell? ⟨w.heap.size, 5, none⟩ = some (.int .i64 0) := or1.keeps (by omega) (by first | (go_simp; done) | assumption)
  have f1_0 : w1.frozen? ⟨w.heap.size, 0, none⟩ = false := or1.free (by omega) (by first | omega | (simp; done) | (simp; omega)) (by first | (go_simp; done) | assumption)
  have f1_1 : w1.frozen? ⟨w.heap.size, 1, none⟩ = false := or1.free (by omega) (by first | omega | (simp; done) | (simp; omega)) (by first | (go_simp; done) | assumption)
  have f1_2 : w1.frozen? ⟨w.heap.size, 2, none⟩ = false := or1.free (by omega) (by first | omega | (simp; done) | (simp; omega)) (by first | (go_simp; done) | assumption)
  have f1_3 : w1.frozen? ⟨w.heap.size, 3, none⟩ = false := or1.free (by omega) (by first | omega | (simp; done) | (simp; omega)) (by first | (go_simp; done) | assumption)
  have f1_4 : w1.frozen? ⟨w.heap.size, 4, none⟩ = false := or1.free (by omega) (by first | omega | (simp; done) | (simp; omega)) (by first | (go_simp; done) | assumption)
  have f1_5 : w1.frozen? ⟨w.heap.size, 5, none⟩ = false := or1.free (by omega) (by first | omega | (simp; done) | (simp; omega)) (by first | (go_simp; done) | assumption)
  go_wp2_with fail
  refine (below_dr g xs ad c 4 _ (hd1.keep fun q hq => (by (repeat (first | with_reducible exact Kp.refl _ _ | (with_reducible refine Kp.rng ?_ (by assumption) ?_) | (with_reducible refine Kp.below ?_ (by assumption)) | (with_reducible refine Kp.grown ?_ (by assumption) ?_) | (with_reducible refine Kp.alloc ?_ _) | (with_reducible refine Kp.drew ?_) | (with_reducible refine Kp.drewN ?_ _) | (with_reducible refine Kp.setCell ?_ _ ?_))) <;> (first | omega | (simp; done) | (simp; omega))))).mono ?_
  rintro e w2 ⟨va, rfl, va0, va1, _, hd2, ob2, or2⟩
  have va1 := va1 (by omega)
  have z2 := ob2.size
  (try simp at z2)
  have y2_0 : w.heap.size < w2.heap.size := (by omega)
  have k2_0 : w2.cell? ⟨w.heap.size, 0, none⟩ = some (.int .i64 0) := or2.keeps (by omega) (by first | (go_simp; done) | assumption)
  have k2_1 : w2.cell? ⟨w.heap.size, 1, none⟩ = some (.int .i64 0) := or2.keeps (by omega) (by first | (go_simp; done) | assumption)
  have k2_2 : w2.cell? ⟨w.heap.size, 2, none⟩ = some (.int .i64 0) := or2.keeps (by omega) (by first | (go_simp; done) | assumption)
  have k2_3 : w2.cell? ⟨w.heap.size, 3, none⟩ = some (.int .i64 0) := or2.keeps (by omega) (by first | (go_simp; done) | assumption)
  have k2_4 : w2.cell? ⟨w.heap.size, 4, none⟩ = some (.int .i64 0) := or2.keeps (by omega) (by first | (go_simp; done) | assumption)
  have k2_5 : w2.cell? ⟨w.heap.size, 5, none⟩ = some (.int .i64 0) := or2.keeps (by omega) (by first | (go_simp; done) | assumption)
  have f2_0 : w2.frozen? ⟨w.heap.size, 0, none⟩ = false := or2.free (by omega) (by first | omega | (simp; done) | (simp; omega)) (by first | (go_simp; done) | assumption)
  have f2_1 : w2.frozen? ⟨w.heap.size, 1, none⟩ = false := or2.free (by omega) (by first | omega | (simp; done) | (simp; omega)) (by first | (go_simp; done) | assumption)
  have f2_2 : w2.frozen? ⟨w.heap.size, 2, none⟩ = false := or2.free (by omega) (by first | omega | (simp; done) | (simp; omega)) (by first | (go_simp; done) | assumption)
  have f2_3 : w2.frozen? ⟨w.heap.size, 3, none⟩ = false := or2.free (by omega) (by first | omega | (simp; done) | (simp; omega)) (by first | (go_simp; done) | assumption)
  have f2_4 : w2.frozen? ⟨w.heap.size, 4, none⟩ = false := or2.free (by omega) (by first | omega | (simp; done) | (simp; omega)) (by first | (go_simp; done) | assumption)
  have f2_5 : w2.frozen? ⟨w.heap.size, 5, none⟩ = false := or2.free (by omega) (by first | omega | (simp; done) | (simp; omega)) (by first | (go_simp; done) | assumption)
  clear k1_0 k1_1 k1_2 k1_3 k1_4 k1_5 f1_0 f1_1 f1_2 f1_3 f1_4 f1_5
  go_wp2_with fail
  refine (below_dr g xs ad c 4 _ (hd2.keep fun q hq => (by (repeat (first | with_reducible exact Kp.refl _ _ | (with_reducible refine Kp.rng ?_ (by assumption) ?_) | (with_reducible refine Kp.below ?_ (by assumption)) | (with_reducible refine Kp.grown ?_ (by assumption) ?_) | (with_reducible refine Kp.alloc ?_ _) | (with_reducible refine Kp.drew ?_) | (with_reducible refine Kp.drewN ?_ _) | (with_reducible refine Kp.setCell ?_ _ ?_))) <;> (first | omega | (simp; done) | (simp; omega))))).mono ?_
  rintro e w3 ⟨vb, rfl, vb0, vb1, _, hd3, ob3, or3⟩
  have vb1 := vb1 (by omega)
  have z3 := ob3.size
  (try simp at z3)
  have y3_0 : w.heap.size < w3.heap.size := (by omega)
  have k3_0 : w3.cell? ⟨w.heap.size, 0, none⟩ = some (.int .i64 0) := or3.keeps (by omega) (by first | (go_simp; done) | assumption)
  have k3_1 : w3.cell? ⟨w.heap.size, 1, none⟩ = some (.int .i64 0) := or3.keeps (by omega) (by first | (go_simp; done) | assumption)
  have k3_2 : w3.cell? ⟨w.heap.size, 2, none⟩ = some (.int .i64 0) := or3.keeps (by omega) (by first | (go_simp; done) | assumption)
  have k3_3 : w3.cell? ⟨w.heap.size, 3, none⟩ = some (.int .i64 0) := or3.keeps (by omega) (by first | (go_simp; done) | assumption)
  have k3_4 : w3.cell? ⟨w.heap.size, 4, none⟩ = some (.int .i64 0) := or3.keeps (by omega) (by first | (go_simp; done) | assumption)
  have k3_5 : w3.cell? ⟨w.heap.size, 5, none⟩ = some (.int .i64 0) := or3.keeps (by omega) (by first | (go_simp; done) | assumption)
  have f3_0 : w3.frozen? ⟨w.heap.size, 0, none⟩ = false := or3.free (by omega) (by first | omega | (simp; done) | (simp; omega)) (by first | (go_simp; done) | assumption)
  have f3_1 : w3.frozen? ⟨w.heap.size, 1, none⟩ = false := or3.free (by omega) (by first | omega | (simp; done) | (simp; omega)) (by first | (go_simp; done) | assumption)
  have f3_2 : w3.frozen? ⟨w.heap.size, 2, none⟩ = false := or3.free (by omega) (by first | omega | (simp; done) | (simp; omega)) (by first | (go_simp; done) | assumption)
  have f3_3 : w3.frozen? ⟨w.heap.size, 3, none⟩ = false := or3.free (by omega) (by first | omega | (simp; done) | (simp; omega)) (by first | (go_simp; done) | assumption)
  have f3_4 : w3.frozen? ⟨w.heap.size, 4, none⟩ = false := or3.free (by omega) (by first | omega | (simp; done) | (simp; omega)) (by first | (go_simp; done) | assumption)
  have f3_5 : w3.frozen? ⟨w.heap.size, 5, none⟩ = false := or3.free (by omega) (by first | omega | (simp; done) | (simp; omega)) (by first | (go_simp; done) | assumption)
  clear k2_0 k2_1 k2_2 k2_3 k2_4 k2_5 f2_0 f2_1 f2_2 f2_3 f2_4 f2_5
  go_wp2_with fail
  refine (below_dr g xs ad c 4 _ (hd3.keep fun q hq => (by (repeat (first | with_reducible exact Kp.refl _ _ | (with_reducible refine Kp.rng ?_ (by assumption) ?_) | (with_reducible refine Kp.below ?_ (by assumption)) | (with_reducible refine Kp.grown ?_ (by assumption) ?_) | (with_reducible refine Kp.alloc ?_ _) | (with_reducible refine Kp.drew ?_) | (with_reducible refine Kp.drewN ?_ _) | (with_reducible refine Kp.setCell ?_ _ ?_))) <;> (first | omega | (simp; done) | (simp; omega))))).mono ?_
  rintro e w4 ⟨vc, rfl, vc0, vc1, _, hd4, ob4, or4⟩
  have vc1 := vc1 (by omega)
  have z4 := ob4.size
  (try simp at z4)
  have y4_0 : w.heap.size < w4.heap.size := (by omega)
  have k4_0 : w4.cell? ⟨w.heap.size, 0, none⟩ = some (.int .i64 0) := or4.keeps (by omega) (by first | (go_simp; done) | assumption)
  have k4_1 : w4.cell? ⟨w.heap.size, 1, none⟩ = some (.int .i64 0) := or4.keeps (by omega) (by first | (go_simp; done) | assumption)
  have k4_2 : w4.cell? ⟨w.heap.size, 2, none⟩ = some (.int .i64 0) := or4.keeps (by omega) (by first | (go_simp; done) | assumption)
  have k4_3 : w4.cell? ⟨w.heap.size, 3, none⟩ = some (.int .i64 0) := or4.keeps (by omega) (by first | (go_simp; done) | assumption)
  have k4_4 : w4.cell? ⟨w.heap.size, 4, none⟩ = some (.int .i64 0) := or4.keeps (by omega) (by first | (go_simp; done) | assumption)
  have k4_5 : w4.cell? ⟨w.heap.size, 5, none⟩ = some (.int .i64 0) := or4.keeps (by omega) (by first | (go_simp; done) | assumption)
  have f4_0 : w4.frozen? ⟨w.heap.size, 0, none⟩ = false := or4.free (by omega) (by first | omega | (simp; done) | (simp; omega)) (by first | (go_simp; done) | assumption)
  have f4_1 : w4.frozen? ⟨w.heap.size, 1, none⟩ = false := or4.free (by omega) (by first | omega | (simp; done) | (simp; omega)) (by first | (go_simp; done) | assumption)
  have f4_2 : w4.frozen? ⟨w.heap.size, 2, none⟩ = false := or4.free (by omega) (by first | omega | (simp; done) | (simp; omega)) (by first | (go_simp; done) | assumption)
  have f4_3 : w4.frozen? ⟨w.heap.size, 3, none⟩ = false := or4.free (by omega) (by first | omega | (simp; done) | (simp; omega)) (by first | (go_simp; done) | assumption)
  have f4_4 : w4.frozen? ⟨w.heap.size, 4, none⟩ = false := or4.free (by omega) (by first | omega | (simp; done) | (simp; omega)) (by first | (go_simp; done) | assumption)
  have f4_5 : w4.frozen? ⟨w.heap.size, 5, none⟩ = false := or4.free (by omega) (by first | omega | (simp; done) | (simp; omega)) (by first | (go_simp; done) | assumption)
  clear k3_0 k3_1 k3_2 k3_3 k3_4 k3_5 f3_0 f3_1 f3_2 f3_3 f3_4 f3_5
  go_wp2_with fail
  obtain ⟨w5, hw5⟩ : ∃ W, W = w4.alloc (.cells #[.int .i64 0, .int .i64 vd, .int .i64 va, .int .i64 vb, .int .i64 vc, .int .i64 0] 26) := ⟨_, rfl⟩
  rw [← hw5]
  have hb5 : Below w4.heap.size w4 w5 := by rw [hw5]; exact (Below.refl _ _).alloc (Nat.le_refl _) _
  have x5 : w4.heap.size < w5.heap.size := by rw [hw5]; simp
  have z5 := hb5.size
  (try simp at z5)
  have y5_0 : w.heap.size < w5.heap.size := (by omega)
  have k5_0 := bel_keeps hb5 (b := w.heap.size) (o := 0) (v := .int .i64 0) (by first | (go_simp; done) | assumption)
  have k5_1 := bel_keeps hb5 (b := w.heap.size) (o := 1) (v := .int .i64 0) (by first | (go_simp; done) | assumption)
  have k5_2 := bel_keeps hb5 (b := w.heap.size) (o := 2) (v := .int .i64 0) (by first | (go_simp; done) | assumption)
  have k5_3 := bel_keeps hb5 (b := w.heap.size) (o := 3) (v := .int .i64 0) (by first | (go_simp; done) | assumption)
  have k5_4 := bel_keeps hb5 (b := w.heap.size) (o := 4) (v := .int .i64 0) (by first | (go_simp; done) | assumption)
  have k5_5 := bel_keeps hb5 (b := w.heap.size) (o := 5) (v := .int .i64 0) (by first | (go_simp; done) | assumption)
  have f5_0 := bel_free hb5 (b := w.heap.size) (o := 0) (by first | omega | (simp; done) | (simp; omega)) (by first | (go_simp; done) | assumption)
  have f5_1 := bel_free hb5 (b := w.heap.size) (o := 1) (by first | omega | (simp; done) | (simp; omega)) (by first | (go_simp; done) | assumption)
  have f5_2 := bel_free hb5 (b := w.heap.size) (o := 2) (by first | omega | (simp; done) | (simp; omega)) (by first | (go_simp; done) | assumption)
  have f5_3 := bel_free hb5 (b := w.heap.size) (o := 3) (by first | omega | (simp; done) | (simp; omega)) (by first | (go_simp; done) | assumption)
  have f5_4 := bel_free hb5 (b := w.heap.size) (o := 4) (by first | omega | (simp; done) | (simp; omega)) (by first | (go_simp; done) | assumption)
  have f5_5 := bel_free hb5 (b := w.heap.size) (o := 5) (by first | omega | (simp; done) | (simp; omega)) (by first | (go_simp; done) | assumption)
  clear k4_0 k4_1 k4_2 k4_3 k4_4 k4_5 f4_0 f4_1 f4_2 f4_3 f4_4 f4_5
  have kb5_0 : w5.cell? ⟨w4.heap.size, 0, none⟩ = some (.int .i64 0) := by rw [hw5]; go_simp
  have kf5_0 : w5.frozen? ⟨w4.heap.size, 0, none⟩ = false := by rw [hw5]; go_simp
  have kb5_1 : w5.cell? ⟨w4.heap.size, 1, none⟩ = some (.int .i64 vd) := by rw [hw5]; go_simp
  have kf5_1 : w5.frozen? ⟨w4.heap.size, 1, none⟩ = false := by rw [hw5]; go_simp
  have kb5_2 : w5.cell? ⟨w4.heap.size, 2, none⟩ = some (.int .i64 va) := by rw [hw5]; go_simp
  have kf5_2 : w5.frozen? ⟨w4.heap.size, 2, none⟩ = false := by rw [hw5]; go_simp
  have kb5_3 : w5.cell? ⟨w4.heap.size, 3, none⟩ = some (.int .i64 vb) := by rw [hw5]; go_simp
  have kf5_3 : w5.frozen? ⟨w4.heap.size, 3, none⟩ = false := by rw [hw5]; go_simp
  have kb5_4 : w5.cell? ⟨w4.heap.size, 4, none⟩ = some (.int .i64 vc) := by rw [hw5]; go_simp
  have kf5_4 : w5.frozen? ⟨w4.heap.size, 4, none⟩ = false := by rw [hw5]; go_simp
  have kb5_5 : w5.cell? ⟨w4.heap.size, 5, none⟩ = some (.int .i64 0) := by rw [hw5]; go_simp
  have kf5_5 : w5.frozen? ⟨w4.heap.size, 5, none⟩ = false := by rw [hw5]; go_simp
  clear hw5
  go_wp2_with fail
  refine (below_dr g xs ad c 12 _ (hd4.keep fun q hq => (by (repeat (first | with_reducible exact Kp.refl _ _ | (with_reducible refine Kp.rng ?_ (by assumption) ?_) | (with_reducible refine Kp.below ?_ (by assumption)) | (with_reducible refine Kp.grown ?_ (by assumption) ?_) | (with_reducible refine Kp.alloc ?_ _) | (with_reducible refine Kp.drew ?_) | (with_reducible refine Kp.drewN ?_ _) | (with_reducible refine Kp.setCell ?_ _ ?_))) <;> (first | omega | (simp; done) | (simp; omega))))).mono ?_
  rintro e w6 ⟨x, rfl, x0, x1, _, hd6, ob6, or6⟩
  have x1 := x1 (by omega)
  have z6 := ob6.size
  (try simp at z6)
  have y6_0 : w.heap.size < w6.heap.size := (by omega)
  have y6_1 : w4.heap.size < w6.heap.size := (by omega)
  have k6_0 : w6.cell? ⟨w.heap.size, 0, none⟩ = some (.int .i64 0) := or6.keeps (by omega) (by first | (go_simp; done) | assumption)
  have k6_1 : w6.cell? ⟨w.heap.size, 1, none⟩ = some (.int .i64 0) := or6.keeps (by omega) (by first | (go_simp; done) | assumption)
  have k6_2 : w6.cell? ⟨w.heap.size, 2, none⟩ = some (.int .i64 0) := or6.keeps (by omega) (by first | (go_simp; done) | assumption)
  have k6_3 : w6.cell? ⟨w.heap.size, 3, none⟩ = some (.int .i64 0) := or6.keeps (by omega) (by first | (go_simp; done) | assumption)
  have k6_4 : w6.cell? ⟨w.heap.size, 4, none⟩ = some (.int .i64 0) := or6.keeps (by omega) (by first | (go_simp; done) | assumption)
  have k6_5 : w6.cell? ⟨w.heap.size, 5, none⟩ = some (.int .i64 0) := or6.keeps (by omega) (by first | (go_simp; done) | assumption)
  have k6_6 : w6.cell? ⟨w4.heap.size, 0, none⟩ = some (.int .i64 0) := or6.keeps (by omega) (by first | (go_simp; done) | assumption)
  have k6_7 : w6.cell? ⟨w4.heap.size, 1, none⟩ = some (.int .i64 vd) := or6.keeps (by omega) (by first | (go_simp; done) | assumption)
  have k6_8 : w6.cell? ⟨w4.heap.size, 2, none⟩ = some (.int .i64 va) := or6.keeps (by omega) (by first | (go_simp; done) | assumption)
  have k6_9 : w6.cell? ⟨w4.heap.size, 3, none⟩ = some (.int .i64 vb) := or6.keeps (by omega) (by first | (go_simp; done) | assumption)
  have k6_10 : w6.cell? ⟨w4.heap.size, 4, none⟩ = some (.int .i64 vc) := or6.keeps (by omega) (by first | (go_simp; done) | assumption)
  have k6_11 : w6.cell? ⟨w4.heap.size, 5, none⟩ = some (.int .i64 0) := or6.keeps (by omega) (by first | (go_simp; done) | assumption)
  have f6_0 : w6.frozen? ⟨w.heap.size, 0, none⟩ = false := or6.free (by omega) (by first | omega | (simp; done) | (simp; omega)) (by first | (go_simp; done) | assumption)
  have f6_1 : w6.frozen? ⟨w.heap.size, 1, none⟩ = false := or6.free (by omega) (by first | omega | (simp; done) | (simp; omega)) (by first | (go_simp; done) | assumption)
  have f6_2 : w6.frozen? ⟨w.heap.size, 2, none⟩ = false := or6.free (by omega) (by first | omega | (simp; done) | (simp; omega)) (by first | (go_simp; done) | assumption)
  have f6_3 : w6.frozen? ⟨w.heap.size, 3, none⟩ = false := or6.free (by omega) (by first | omega | (simp; done) | (simp; omega)) (by first | (go_simp; done) | assumption)
  have f6_4 : w6.frozen? ⟨w.heap.size, 4, none⟩ = false := or6.free (by omega) (by first | omega | (simp; done) | (simp; omega)) (by first | (go_simp; done) | assumption)
  have f6_5 : w6.frozen? ⟨w.heap.size, 5, none⟩ = false := or6.free (by omega) (by first | omega | (simp; done) | (simp; omega)) (by first | (go_simp; done) | assumption)
  have f6_6 : w6.frozen? ⟨w4.heap.size, 0, none⟩ = false := or6.free (by omega) (by first | omega | (simp; done) | (simp; omega)) (by first | (go_simp; done) | assumption)
  have f6_7 : w6.frozen? ⟨w4.heap.size, 1, none⟩ = false := or6.free (by omega) (by first | omega | (simp; done) | (simp; omega)) (by first | (go_simp; done) | assumption)
  have f6_8 : w6.frozen? ⟨w4.heap.size, 2, none⟩ = false := or6.free (by omega) (by first | omega | (simp; done) | (simp; omega)) (by first | (go_simp; done) | assumption)
  have f6_9 : w6.frozen? ⟨w4.heap.size, 3, none⟩ = false := or6.free (by omega) (by first | omega | (simp; done) | (simp; omega)) (by first | (go_simp; done) | assumption)
  have f6_10 : w6.frozen? ⟨w4.heap.size, 4, none⟩ = false := or6.free (by omega) (by first | omega | (simp; done) | (simp; omega)) (by first | (go_simp; done) | assumption)
  have f6_11 : w6.frozen? ⟨w4.heap.size, 5, none⟩ = false := or6.free (by omega) (by first | omega | (simp; done) | (simp; omega)) (by first | (go_simp; done) | assumption)
  clear k5_0 k5_1 k5_2 k5_3 k5_4 k5_5 kb5_0 kb5_1 kb5_2 kb5_3 kb5_4 kb5_5 f5_0 f5_1 f5_2 f5_3 f5_4 f5_5 kf5_0 kf5_1 kf5_2 kf5_3 kf5_4 kf5_5
  have hx : x = 0 ∨ x = 1 ∨ x = 2 ∨ x = 3 ∨ x = 4 ∨ x = 5 ∨ x = 6 ∨ 7 ≤ x := by omega
  rcases hx with rfl | rfl | rfl | rfl | rfl | rfl | rfl | hx
  ·
    go_wp2_with fail
    refine (below_dr g xs ad c 16 _ (hd6.keep fun q hq => (by (repeat (first | with_reducible exact Kp.refl _ _ | (with_reducible refine Kp.rng ?_ (by assumption) ?_) | (with_reducible refine Kp.below ?_ (by assumption)) | (with_reducible refine Kp.grown ?_ (by assumption) ?_) | (with_reducible refine Kp.alloc ?_ _) | (with_reducible refine Kp.drew ?_) | (with_reducible refine Kp.drewN ?_ _) | (with_reducible refine Kp.setCell ?_ _ ?_))) <;> (first | omega | (simp; done) | (simp; omega))))).mono ?_
    rintro e w7 ⟨vn, rfl, vn0, vn1, _, hd7, ob7, or7⟩
    have vn1 := vn1 (by omega)
    have z7 := ob7.size
    (try simp at z7)
    have y7_0 : w.heap.size < w7.heap.size := (by omega)
    have y7_1 : w4.heap.size < w7.heap.size := (by omega)
    have k7_0 : w7.cell? ⟨w.heap.size, 0, none⟩ = some (.int .i64 0) := or7.keeps (by omega) (by first | (go_simp; done) | assumption)
    have k7_1 : w7.cell? ⟨w.heap.size, 1, none⟩ = some (.int .i64 0) := or7.keeps (by omega) (by first | (go_simp; done) | assumption)
    have k7_2 : w7.cell? ⟨w.heap.size, 2, none⟩ = some (.int .i64 0) := or7.keeps (by omega) (by first | (go_simp; done) | assumption)
    have k7_3 : w7.cell? ⟨w.heap.size, 3, none⟩ = some (.int .i64 0) := or7.keeps (by omega) (by first | (go_simp; done) | assumption)
    have k7_4 : w7.cell? ⟨w.heap.size, 4, none⟩ = some (.int .i64 0) := or7.keeps (by omega) (by first | (go_simp; done) | assumption)
    have k7_5 : w7.cell? ⟨w.heap.size, 5, none⟩ = some (.int .i64 0) := or7.keeps (by omega) (by first | (go_simp; done) | assumption)
    have k7_6 : w7.cell? ⟨w4.heap.size, 0, none⟩ = some (.int .i64 1) := or7.keeps (by omega) (by first | (go_simp; done) | assumption)
    have k7_7 : w7.cell? ⟨w4.heap.size, 1, none⟩ = some (.int .i64 vd) := or7.keeps (by omega) (by first | (go_simp; done) | assumption)
    have k7_8 : w7.cell? ⟨w4.heap.size, 2, none⟩ = some (.int .i64 va) := or7.keeps (by omega) (by first | (go_simp; done) | assumption)
    have k7_9 : w7.cell? ⟨w4.heap.size, 3, none⟩ = some (.int .i64 vb) := or7.keeps (by omega) (by first | (go_simp; done) | assumption)
    have k7_10 : w7.cell? ⟨w4.heap.size, 4, none⟩ = some (.int .i64 vc) := or7.keeps (by omega) (by first | (go_simp; done) | assumption)
    have k7_11 : w7.cell? ⟨w4.heap.size, 5, none⟩ = some (.int .i64 0) := or7.keeps (by omega) (by first | (go_simp; done) | assumption)
    have f7_0 : w7.frozen? ⟨w.heap.size, 0, none⟩ = false := or7.free (by omega) (by first | omega | (simp; done) | (simp; omega)) (by first | (go_simp; done) | assumption)
    have f7_1 : w7.frozen? ⟨w.heap.size, 1, none⟩ = false := or7.free (by omega) (by first | omega | (simp; done) | (simp; omega)) (by first | (go_simp; done) | assumption)
    have f7_2 : w7.frozen? ⟨w.heap.size, 2, none⟩ = false := or7.free (by omega) (by first | omega | (simp; done) | (simp; omega)) (by first | (go_simp; done) | assumption)
    have f7_3 : w7.frozen? ⟨w.heap.size, 3, none⟩ = false := or7.free (by omega) (by first | omega | (simp; done) | (simp; omega)) (by first | (go_simp; done) | assumption)
    have f7_4 : w7.frozen? ⟨w.heap.size, 4, none⟩ = false := or7.free (by omega) (by first | omega | (simp; done) | (simp; omega)) (by first | (go_simp; done) | assumption)
    have f7_5 : w7.frozen? ⟨w.heap.size, 5, none⟩ = false := or7.free (by omega) (by first | omega | (simp; done) | (simp; omega)) (by first | (go_simp; done) | assumption)
    have f7_6 : w7.frozen? ⟨w4.heap.size, 0, none⟩ = false := or7.free (by omega) (by first | omega | (simp; done) | (simp; omega)) (by first | (go_simp; done) | assumption)
    have f7_7 : w7.frozen? ⟨w4.heap.size, 1, none⟩ = false := or7.free (by omega) (by first | omega | (simp; done) | (simp; omega)) (by first | (go_simp; done) | assumption)
    have f7_8 : w7.frozen? ⟨w4.heap.size, 2, none⟩ = false := or7.free (by omega) (by first | omega | (simp; done) | (simp; omega)) (by first | (go_simp; done) | assumption)
    have f7_9 : w7.frozen? ⟨w4.heap.size, 3, none⟩ = false := or7.free (by omega) (by first | omega | (simp; done) | (simp; omega)) (by first | (go_simp; done) | assumption)
    have f7_10 : w7.frozen? ⟨w4.heap.size, 4, none⟩ = false := or7.free (by omega) (by first | omega | (simp; done) | (simp; omega)) (by first | (go_simp; done) | assumption)
    have f7_11 : w7.frozen? ⟨w4.heap.size, 5, none⟩ = false := or7.free (by omega) (by first | omega | (simp; done) | (simp; omega)) (by first | (go_simp; done) | assumption)
    clear k6_0 k6_1 k6_2 k6_3 k6_4 k6_5 k6_6 k6_7 k6_8 k6_9 k6_10 k6_11 f6_0 f6_1 f6_2 f6_3 f6_4 f6_5 f6_6 f6_7 f6_8 f6_9 f6_10 f6_11
    have hp : plainS ⟨1, vd, va, vb, vc, vn⟩ = ⟨1, vd, 0, 0, 0, vn⟩ := by simp [plainS, inB]
    have hok : plain1 ⟨1, vd, 0, 0, 0, vn⟩ := by refine ⟨?_, by simp, by simp⟩; simp [stOk, inB]; try omega
    go_wp2_with fail
    refine (l08Plain_any ⟨1, vd, va, vb, vc, vn⟩ _).mono ?_
    rw [hp]
    rintro e w8 ⟨rfl, hb8⟩
    have z8 := hb8.size
    (try simp at z8)
    have y8_0 : w.heap.size < w8.heap.size := (by omega)
    have y8_1 : w4.heap.size < w8.heap.size := (by omega)
    have k8_0 := bel_keeps hb8 (b := w.heap.size) (o := 0) (v := .int .i64 0) (by first | (go_simp; done) | assumption)
    have k8_1 := bel_keeps hb8 (b := w.heap.size) (o := 1) (v := .int .i64 0) (by first | (go_simp; done) | assumption)
    have k8_2 := bel_keeps hb8 (b := w.heap.size) (o := 2) (v := .int .i64 0) (by first | (go_simp; done) | assumption)
    have k8_3 := bel_keeps hb8 (b := w.heap.size) (o := 3) (v := .int .i64 0) (by first | (go_simp; done) | assumption)
    have k8_4 := bel_keeps hb8 (b := w.heap.size) (o := 4) (v := .int .i64 0) (by first | (go_simp; done) | assumption)
    have k8_5 := bel_keeps hb8 (b := w.heap.size) (o := 5) (v := .int .i64 0) (by first | (go_simp; done) | assumption)
    have k8_6 := bel_keeps hb8 (b := w4.heap.size) (o := 0) (v := .int .i64 1) (by first | (go_simp; done) | assumption)
    have k8_7 := bel_keeps hb8 (b := w4.heap.size) (o := 1) (v := .int .i64 vd) (by first | (go_simp; done) | assumption)
    have k8_8 := bel_keeps hb8 (b := w4.heap.size) (o := 2) (v := .int .i64 va) (by first | (go_simp; done) | assumption)
    have k8_9 := bel_keeps hb8 (b := w4.heap.size) (o := 3) (v := .int .i64 vb) (by first | (go_simp; done) | assumption)
    have k8_10 := bel_keeps hb8 (b := w4.heap.size) (o := 4) (v := .int .i64 vc) (by first | (go_simp; done) | assumption)
    have k8_11 := bel_keeps hb8 (b := w4.heap.size) (o := 5) (v := .int .i64 vn) (by first | (go_simp; done) | assumption)
    have f8_0 := bel_free hb8 (b := w.heap.size) (o := 0) (by first | omega | (simp; done) | (simp; omega)) (by first | (go_simp; done) | assumption)
    have f8_1 := bel_free hb8 (b := w.heap.size) (o := 1) (by first | omega | (simp; done) | (simp; omega)) (by first | (go_simp; done) | assumption)
    have f8_2 := bel_free hb8 (b := w.heap.size) (o := 2) (by first | omega | (simp; done) | (simp; omega)) (by first | (go_simp; done) | assumption)
    have f8_3 := bel_free hb8 (b := w.heap.size) (o := 3) (by first | omega | (simp; done) | (simp; omega)) (by first | (go_simp; done) | assumption)
    have f8_4 := bel_free hb8 (b := w.heap.size) (o := 4) (by first | omega | (simp; done) | (simp; omega)) (by first | (go_simp; done) | assumption)
    have f8_5 := bel_free hb8 (b := w.heap.size) (o := 5) (by first | omega | (simp; done) | (simp; omega)) (by first | (go_simp; done) | assumption)
    have f8_6 := bel_free hb8 (b := w4.heap.size) (o := 0) (by first | omega | (simp; done) | (simp; omega)) (by first | (go_simp; done) | assumption)
    have f8_7 := bel_free hb8 (b := w4.heap.size) (o := 1) (by first | omega | (simp; done) | (simp; omega)) (by first | (go_simp; done) | assumption)
    have f8_8 := bel_free hb8 (b := w4.heap.size) (o := 2) (by first | omega | (simp; done) | (simp; omega)) (by first | (go_simp; done) | assumption)
    have f8_9 := bel_free hb8 (b := w4.heap.size) (o := 3) (by first | omega | (simp; done) | (simp; omega)) (by first | (go_simp; done) | assumption)
    have f8_10 := bel_free hb8 (b := w4.heap.size) (o := 4) (by first | omega | (simp; done) | (simp; omega)) (by first | (go_simp; done) | assumption)
    have f8_11 := bel_free hb8 (b := w4.heap.size) (o := 5) (by first | omega | (simp; done) | (simp; omega)) (by first | (go_simp; done) | assumption)
    clear k7_0 k7_1 k7_2 k7_3 k7_4 k7_5 k7_6 k7_7 k7_8 k7_9 k7_10 k7_11 f7_0 f7_1 f7_2 f7_3 f7_4 f7_5 f7_6 f7_7 f7_8 f7_9 f7_10 f7_11
    unfold stV
    go_wp2_with fail
    refine bodyPost_ret (v := .agg #[.int .i64 (1), .int .i64 (vd), .int .i64 (0), .int .i64 (0), .int .i64 (0), .int .i64 (vn)]) (by simp [results, Tryd.results67, go_sem, k8_0, k8_1, k8_2, k8_3, k8_4, k8_5, f8_0, f8_1, f8_2, f8_3, f8_4, f8_5]) rfl ⟨⟨1, vd, 0, 0, 0, vn⟩, rfl, hok, hd7.keep fun q hq => (by (repeat (first | with_reducible exact Kp.refl _ _ | (with_reducible refine Kp.rng ?_ (by assumption) ?_) | (with_reducible refine Kp.below ?_ (by assumption)) | (with_reducible refine Kp.grown ?_ (by assumption) ?_) | (with_reducible refine Kp.alloc ?_ _) | (with_reducible refine Kp.drew ?_) | (with_reducible refine Kp.drewN ?_ _) | (with_reducible refine Kp.setCell ?_ _ ?_))) <;> (first | omega | (simp; done) | (simp; omega))), ⟨(by (repeat (first | with_reducible exact Below.refl _ _ | (with_reducible refine bel_next ?_ ?_ (by assumption)) | (with_reducible refine Below.alloc ?_ ?_ _) | (with_reducible refine Below.drew ?_) | (with_reducible refine below_drewN ?_ _) | (with_reducible refine Below.setCell ?_ ?_ _))) <;> (first | omega | (simp; done) | (simp; omega))), fun q hq => Kp.of_lt fun hql => (by (repeat (first | with_reducible exact Kp.refl _ _ | (with_reducible refine Kp.rng ?_ (by assumption) ?_) | (with_reducible refine Kp.below ?_ (by assumption)) | (with_reducible refine Kp.grown ?_ (by assumption) ?_) | (with_reducible refine Kp.alloc ?_ _) | (with_reducible refine Kp.drew ?_) | (with_reducible refine Kp.drewN ?_ _) | (with_reducible refine Kp.setCell ?_ _ ?_))) <;> (first | omega | (simp; done) | (simp; omega)))⟩⟩
  ·
    go_wp2_with fail
    refine (below_dr g xs ad c 3 _ (hd6.keep fun q hq => (by (repeat (first | with_reducible exact Kp.refl _ _ | (with_reducible refine Kp.rng ?_ (by assumption) ?_) | (with_reducible refine Kp.below ?_ (by assumption)) | (with_reducible refine Kp.grown ?_ (by assumption) ?_) | (with_reducible refine Kp.alloc ?_ _) | (with_reducible refine Kp.drew ?_) | (with_reducible refine Kp.drewN ?_ _) | (with_reducible refine Kp.setCell ?_ _ ?_))) <;> (first | omega | (simp; done) | (simp; omega))))).mono ?_
    rintro e w7 ⟨va2, rfl, va20, va21, _, hd7, ob7, or7⟩
    have va21 := va21 (by omega)
    have z7 := ob7.size
    (try simp at z7)
    have y7_0 : w.heap.size < w7.heap.size := (by omega)
    have y7_1 : w4.heap.size < w7.heap.size := (by omega)
    have k7_0 : w7.cell? ⟨w.heap.size, 0, none⟩ = some (.int .i64 0) := or7.keeps (by omega) (by first | (go_simp; done) | assumption)
    have k7_1 : w7.cell? ⟨w.heap.size, 1, none⟩ = some (.int .i64 0) := or7.keeps (by omega) (by first | (go_simp; done) | assumption)
    have k7_2 : w7.cell? ⟨w.heap.size, 2, none⟩ = some (.int .i64 0) := or7.keeps (by omega) (by first | (go_simp; done) | assumption)
    have k7_3 : w7.cell? ⟨w.heap.size, 3, none⟩ = some (.int .i64 0) := or7.keeps (by omega) (by first | (go_simp; done) | assumption)
    have k7_4 : w7.cell? ⟨w.heap.size, 4, none⟩ = some (.int .i64 0) := or7.keeps (by omega) (by first | (go_simp; done) | assumption)
    have k7_5 : w7.cell? ⟨w.heap.size, 5, none⟩ = some (.int .i64 0) := or7.keeps (by omega) (by first | (go_simp; done) | assumption)
    have k7_6 : w7.cell? ⟨w4.heap.size, 0, none⟩ = some (.int .i64 2) := or7.keeps (by omega) (by first | (go_simp; done) | assumption)
    have k7_7 : w7.cell? ⟨w4.heap.size, 1, none⟩ = some (.int .i64 vd) := or7.keeps (by omega) (by first | (go_simp; done) | assumption)
    have k7_8 : w7.cell? ⟨w4.heap.size, 2, none⟩ = some (.int .i64 va) := or7.keeps (by omega) (by first | (go_simp; done) | assumption)
    have k7_9 : w7.cell? ⟨w4.heap.size, 3, none⟩ = some (.int .i64 vb) := or7.keeps (by omega) (by first | (go_simp; done) | assumption)
    have k7_10 : w7.cell? ⟨w4.heap.size, 4, none⟩ = some (.int .i64 vc) := or7.keeps (by omega) (by first | (go_simp; done) | assumption)
    have k7_11 : w7.cell? ⟨w4.heap.size, 5, none⟩ = some (.int .i64 0) := or7.keeps (by omega) (by first | (go_simp; done) | assumption)
    have f7_0 : w7.frozen? ⟨w.heap.size, 0, none⟩ = false := or7.free (by omega) (by first | omega | (simp; done) | (simp; omega)) (by first | (go_simp; done) | assumption)
    have f7_1 : w7.frozen? ⟨w.heap.size, 1, none⟩ = false := or7.free (by omega) (by first | omega | (simp; done) | (simp; omega)) (by first | (go_simp; done) | assumption)
    have f7_2 : w7.frozen? ⟨w.heap.size, 2, none⟩ = false := or7.free (by omega) (by first | omega | (simp; done) | (simp; omega)) (by first | (go_simp; done) | assumption)
    have f7_3 : w7.frozen? ⟨w.heap.size, 3, none⟩ = false := or7.free (by omega) (by first | omega | (simp; done) | (simp; omega)) (by first | (go_simp; done) | assumption)
    have f7_4 : w7.frozen? ⟨w.heap.size, 4, none⟩ = false := or7.free (by omega) (by first | omega | (simp; done) | (simp; omega)) (by first | (go_simp; done) | assumption)
    have f7_5 : w7.frozen? ⟨w.heap.size, 5, none⟩ = false := or7.free (by omega) (by first | omega | (simp; done) | (simp; omega)) (by first | (go_simp; done) | assumption)
    have f7_6 : w7.frozen? ⟨w4.heap.size, 0, none⟩ = false := or7.free (by omega) (by first | omega | (simp; done) | (simp; omega)) (by first | (go_simp; done) | assumption)
    have f7_7 : w7.frozen? ⟨w4.heap.size, 1, none⟩ = false := or7.free (by omega) (by first | omega | (simp; done) | (simp; omega)) (by first | (go_simp; done) | assumption)
    have f7_8 : w7.frozen? ⟨w4.heap.size, 2, none⟩ = false := or7.free (by omega) (by first | omega | (simp; done) | (simp; omega)) (by first | (go_simp; done) | assumption)
    have f7_9 : w7.frozen? ⟨w4.heap.size, 3, none⟩ = false := or7.free (by omega) (by first | omega | (simp; done) | (simp; omega)) (by first | (go_simp; done) | assumption)
    have f7_10 : w7.frozen? ⟨w4.heap.size, 4, none⟩ = false := or7.free (by omega) (by first | omega | (simp; done) | (simp; omega)) (by first | (go_simp; done) | assumption)
    have f7_11 : w7.frozen? ⟨w4.heap.size, 5, none⟩ = false := or7.free (by omega) (by first | omega | (simp; done) | (simp; omega)) (by first | (go_simp; done) | assumption)
    clear k6_0 k6_1 k6_2 k6_3 k6_4 k6_5 k6_6 k6_7 k6_8 k6_9 k6_10 k6_11 f6_0 f6_1 f6_2 f6_3 f6_4 f6_5 f6_6 f6_7 f6_8 f6_9 f6_10 f6_11
    go_wp2_with fail
    refine (below_dr g xs ad c 2 _ (hd7.keep fun q hq => (by (repeat (first | with_reducible exact Kp.refl _ _ | (with_reducible refine Kp.rng ?_ (by assumption) ?_) | (with_reducible refine Kp.below ?_ (by assumption)) | (with_reducible refine Kp.grown ?_ (by assumption) ?_) | (with_reducible refine Kp.alloc ?_ _) | (with_reducible refine Kp.drew ?_) | (with_reducible refine Kp.drewN ?_ _) | (with_reducible refine Kp.setCell ?_ _ ?_))) <;> (first | omega | (simp; done) | (simp; omega))))).mono ?_
    rintro e w8 ⟨vn, rfl, vn0, vn1, _, hd8, ob8, or8⟩
    have vn1 := vn1 (by omega)
    have z8 := ob8.size
    (try simp at z8)
    have y8_0 : w.heap.size < w8.heap.size := (by omega)
    have y8_1 : w4.heap.size < w8.heap.size := (by omega)
    have k8_0 : w8.cell? ⟨w.heap.size, 0, none⟩ = some (.int .i64 0) := or8.keeps (by omega) (by first | (go_simp; done) | assumption)
    have k8_1 : w8.cell? ⟨w.heap.size, 1, none⟩ = some (.int .i64 0) := or8.keeps (by omega) (by first | (go_simp; done) | assumption)
    have k8_2 : w8.cell? ⟨w.heap.size, 2, none⟩ = some (.int .i64 0) := or8.keeps (by omega) (by first | (go_simp; done) | assumption)
    have k8_3 : w8.cell? ⟨w.heap.size, 3, none⟩ = some (.int .i64 0) := or8.keeps (by omega) (by first | (go_simp; done) | assumption)
    have k8_4 : w8.cell? ⟨w.heap.size, 4, none⟩ = some (.int .i64 0) := or8.keeps (by omega) (by first | (go_simp; done) | assumption)
    have k8_5 : w8.cell? ⟨w.heap.size, 5, none⟩ = some (.int .i64 0) := or8.keeps (by omega) (by first | (go_simp; done) | assumption)
    have k8_6 : w8.cell? ⟨w4.heap.size, 0, none⟩ = some (.int .i64 2) := or8.keeps (by omega) (by first | (go_simp; done) | assumption)
    have k8_7 : w8.cell? ⟨w4.heap.size, 1, none⟩ = some (.int .i64 vd) := or8.keeps (by omega) (by first | (go_simp; done) | assumption)
    have k8_8 : w8.cell? ⟨w4.heap.size, 2, none⟩ = some (.int .i64 va2) := or8.keeps (by omega) (by first | (go_simp; done) | assumption)
    have k8_9 : w8.cell? ⟨w4.heap.size, 3, none⟩ = some (.int .i64 vb) := or8.keeps (by omega) (by first | (go_simp; done) | assumption)
    have k8_10 : w8.cell? ⟨w4.heap.size, 4, none⟩ = some (.int .i64 vc) := or8.keeps (by omega) (by first | (go_simp; done) | assumption)
    have k8_11 : w8.cell? ⟨w4.heap.size, 5, none⟩ = some (.int .i64 0) := or8.keeps (by omega) (by first | (go_simp; done) | assumption)
    have f8_0 : w8.frozen? ⟨w.heap.size, 0, none⟩ = false := or8.free (by omega) (by first | omega | (simp; done) | (simp; omega)) (by first | (go_simp; done) | assumption)
    have f8_1 : w8.frozen? ⟨w.heap.size, 1, none⟩ = false := or8.free (by omega) (by first | omega | (simp; done) | (simp; omega)) (by first | (go_simp; done) | assumption)
    have f8_2 : w8.frozen? ⟨w.heap.size, 2, none⟩ = false := or8.free (by omega) (by first | omega | (simp; done) | (simp; omega)) (by first | (go_simp; done) | assumption)
    have f8_3 : w8.frozen? ⟨w.heap.size, 3, none⟩ = false := or8.free (by omega) (by first | omega | (simp; done) | (simp; omega)) (by first | (go_simp; done) | assumption)
    have f8_4 : w8.frozen? ⟨w.heap.size, 4, none⟩ = false := or8.free (by omega) (by first | omega | (simp; done) | (simp; omega)) (by first | (go_simp; done) | assumption)
    have f8_5 : w8.frozen? ⟨w.heap.size, 5, none⟩ = false := or8.free (by omega) (by first | omega | (simp; done) | (simp; omega)) (by first | (go_simp; done) | assumption)
    have f8_6 : w8.frozen? ⟨w4.heap.size, 0, none⟩ = false := or8.free (by omega) (by first | omega | (simp; done) | (simp; omega)) (by first | (go_simp; done) | assumption)
    have f8_7 : w8.frozen? ⟨w4.heap.size, 1, none⟩ = false := or8.free (by omega) (by first | omega | (simp; done) | (simp; omega)) (by first | (go_simp; done) | assumption)
    have f8_8 : w8.frozen? ⟨w4.heap.size, 2, none⟩ = false := or8.free (by omega) (by first | omega | (simp; done) | (simp; omega)) (by first | (go_simp; done) | assumption)
    have f8_9 : w8.frozen? ⟨w4.heap.size, 3, none⟩ = false := or8.free (by omega) (by first | omega | (simp; done) | (simp; omega)) (by first | (go_simp; done) | assumption)
    have f8_10 : w8.frozen? ⟨w4.heap.size, 4, none⟩ = false := or8.free (by omega) (by first | omega | (simp; done) | (simp; omega)) (by first | (go_simp; done) | assumption)
    have f8_11 : w8.frozen? ⟨w4.heap.size, 5, none⟩ = false := or8.free (by omega) (by first | omega | (simp; done) | (simp; omega)) (by first | (go_simp; done) | assumption)
    clear k7_0 k7_1 k7_2 k7_3 k7_4 k7_5 k7_6 k7_7 k7_8 k7_9 k7_10 k7_11 f7_0 f7_1 f7_2 f7_3 f7_4 f7_5 f7_6 f7_7 f7_8 f7_9 f7_10 f7_11
    have hp : plainS ⟨2, vd, va2, vb, vc, vn⟩ = ⟨2, vd, va2, 0, 0, vn⟩ := by simp [plainS, inB]
    have hok : plain1 ⟨2, vd, va2, 0, 0, vn⟩ := by refine ⟨?_, by simp, by simp⟩; simp [stOk, inB]; try omega
    go_wp2_with fail
    refine (l08Plain_any ⟨2, vd, va2, vb, vc, vn⟩ _).mono ?_
    rw [hp]
    rintro e w9 ⟨rfl, hb9⟩
    have z9 := hb9.size
    (try simp at z9)
    have y9_0 : w.heap.size < w9.heap.size := (by omega)
    have y9_1 : w4.heap.size < w9.heap.size := (by omega)
    have k9_0 := bel_keeps hb9 (b := w.heap.size) (o := 0) (v := .int .i64 0) (by first | (go_simp; done) | assumption)
    have k9_1 := bel_keeps hb9 (b := w.heap.size) (o := 1) (v := .int .i64 0) (by first | (go_simp; done) | assumption)
    have k9_2 := bel_keeps hb9 (b := w.heap.size) (o := 2) (v := .int .i64 0) (by first | (go_simp; done) | assumption)
    have k9_3 := bel_keeps hb9 (b := w.heap.size) (o := 3) (v := .int .i64 0) (by first | (go_simp; done) | assumption)
    have k9_4 := bel_keeps hb9 (b := w.heap.size) (o := 4) (v := .int .i64 0) (by first | (go_simp; done) | assumption)
    have k9_5 := bel_keeps hb9 (b := w.heap.size) (o := 5) (v := .int .i64 0) (by first | (go_simp; done) | assumption)
    have k9_6 := bel_keeps hb9 (b := w4.heap.size) (o := 0) (v := .int .i64 2) (by first | (go_simp; done) | assumption)
    have k9_7 := bel_keeps hb9 (b := w4.heap.size) (o := 1) (v := .int .i64 vd) (by first | (go_simp; done) | assumption)
    have k9_8 := bel_keeps hb9 (b := w4.heap.size) (o := 2) (v := .int .i64 va2) (by first | (go_simp; done) | assumption)
    have k9_9 := bel_keeps hb9 (b := w4.heap.size) (o := 3) (v := .int .i64 vb) (by first | (go_simp; done) | assumption)
    have k9_10 := bel_keeps hb9 (b := w4.heap.size) (o := 4) (v := .int .i64 vc) (by first | (go_simp; done) | assumption)
    have k9_11 := bel_keeps hb9 (b := w4.heap.size) (o := 5) (v := .int .i64 vn) (by first | (go_simp; done) | assumption)
    have f9_0 := bel_free hb9 (b := w.heap.size) (o := 0) (by first | omega | (simp; done) | (simp; omega)) (by first | (go_simp; done) | assumption)
    have f9_1 := bel_free hb9 (b := w.heap.size) (o := 1) (by first | omega | (simp; done) | (simp; omega)) (by first | (go_simp; done) | assumption)
    have f9_2 := bel_free hb9 (b := w.heap.size) (o := 2) (by first | omega | (simp; done) | (simp; omega)) (by first | (go_simp; done) | assumption)
    have f9_3 := bel_free hb9 (b := w.heap.size) (o := 3) (by first | omega | (simp; done) | (simp; omega)) (by first | (go_simp; done) | assumption)
    have f9_4 := bel_free hb9 (b := w.heap.size) (o := 4) (by first | omega | (simp; done) | (simp; omega)) (by first | (go_simp; done) | assumption)
    have f9_5 := bel_free hb9 (b := w.heap.size) (o := 5) (by first | omega | (simp; done) | (simp; omega)) (by first | (go_simp; done) | assumption)
    have f9_6 := bel_free hb9 (b := w4.heap.size) (o := 0) (by first | omega | (simp; done) | (simp; omega)) (by first | (go_simp; done) | assumption)
    have f9_7 := bel_free hb9 (b := w4.heap.size) (o := 1) (by first | omega | (simp; done) | (simp; omega)) (by first | (go_simp; done) | assumption)
    have f9_8 := bel_free hb9 (b := w4.heap.size) (o := 2) (by first | omega | (simp; done) | (simp; omega)) (by first | (go_simp; done) | assumption)
    have f9_9 := bel_free hb9 (b := w4.heap.size) (o := 3) (by first | omega | (simp; done) | (simp; omega)) (by first | (go_simp; done) | assumption)
    have f9_10 := bel_free hb9 (b := w4.heap.size) (o := 4) (by first | omega | (simp; done) | (simp; omega)) (by first | (go_simp; done) | assumption)
    have f9_11 := bel_free hb9 (b := w4.heap.size) (o := 5) (by first | omega | (simp; done) | (simp; omega)) (by first | (go_simp; done) | assumption)
    clear k8_0 k8_1 k8_2 k8_3 k8_4 k8_5 k8_6 k8_7 k8_8 k8_9 k8_10 k8_11 f8_0 f8_1 f8_2 f8_3 f8_4 f8_5 f8_6 f8_7 f8_8 f8_9 f8_10 f8_11
    unfold stV
    go_wp2_with fail
    refine bodyPost_ret (v := .agg #[.int .i64 (2), .int .i64 (vd), .int .i64 (va2), .int .i64 (0), .int .i64 (0), .int .i64 (vn)]) (by simp [results, Tryd.results67, go_sem, k9_0, k9_1, k9_2, k9_3, k9_4, k9_5, f9_0, f9_1, f9_2, f9_3, f9_4, f9_5]) rfl ⟨⟨2, vd, va2, 0, 0, vn⟩, rfl, hok, hd8.keep fun q hq => (by (repeat (first | with_reducible exact Kp.refl _ _ | (with_reducible refine Kp.rng ?_ (by assumption) ?_) | (with_reducible refine Kp.below ?_ (by assumption)) | (with_reducible refine Kp.grown ?_ (by assumption) ?_) | (with_reducible refine Kp.alloc ?_ _) | (with_reducible refine Kp.drew ?_) | (with_reducible refine Kp.drewN ?_ _) | (with_reducible refine Kp.setCell ?_ _ ?_))) <;> (first | omega | (simp; done) | (simp; omega))), ⟨(by (repeat (first | with_reducible exact Below.refl _ _ | (with_reducible refine bel_next ?_ ?_ (by assumption)) | (with_reducible refine Below.alloc ?_ ?_ _) | (with_reducible refine Below.drew ?_) | (with_reducible refine below_drewN ?_ _) | (with_reducible refine Below.setCell ?_ ?_ _))) <;> (first | omega | (simp; done) | (simp; omega))), fun q hq => Kp.of_lt fun hql => (by (repeat (first | with_reducible exact Kp.refl _ _ | (with_reducible refine Kp.rng ?_ (by assumption) ?_) | (with_reducible refine Kp.below ?_ (by assumption)) | (with_reducible refine Kp.grown ?_ (by assumption) ?_) | (with_reducible refine Kp.alloc ?_ _) | (with_reducible refine Kp.drew ?_) | (with_reducible refine Kp.drewN ?_ _) | (with_reducible refine Kp.setCell ?_ _ ?_))) <;> (first | omega | (simp; done) | (simp; omega)))⟩⟩
  ·
    go_wp2_with fail
    refine (below_dr g xs ad c 3 _ (hd6.keep fun q hq => (by (repeat (first | with_reducible exact Kp.refl _ _ | (with_reducible refine Kp.rng ?_ (by assumption) ?_) | (with_reducible refine Kp.below ?_ (by assumption)) | (with_reducible refine Kp.grown ?_ (by assumption) ?_) | (with_reducible refine Kp.alloc ?_ _) | (with_reducible refine Kp.drew ?_) | (with_reducible refine Kp.drewN ?_ _) | (with_reducible refine Kp.setCell ?_ _ ?_))) <;> (first | omega | (simp; done) | (simp; omega))))).mono ?_
    rintro e w7 ⟨va2, rfl, va20, va21, _, hd7, ob7, or7⟩
    have va21 := va21 (by omega)
    have z7 := ob7.size
    (try simp at z7)
    have y7_0 : w.heap.size < w7.heap.size := (by omega)
    have y7_1 : w4.heap.size < w7.heap.size := (by omega)
    have k7_0 : w7.cell? ⟨w.heap.size, 0, none⟩ = some (.int .i64 0) := or7.keeps (by omega) (by first | (go_simp; done) | assumption)
    have k7_1 : w7.cell? ⟨w.heap.size, 1, none⟩ = some (.int .i64 0) := or7.keeps (by omega) (by first | (go_simp; done) | assumption)
    have k7_2 : w7.cell? ⟨w.heap.size, 2, none⟩ = some (.int .i64 0) := or7.keeps (by omega) (by first | (go_simp; done) | assumption)
    have k7_3 : w7.cell? ⟨w.heap.size, 3, none⟩ = some (.int .i64 0) := or7.keeps (by omega) (by first | (go_simp; done) | assumption)
    have k7_4 : w7.cell? ⟨w.heap.size, 4, none⟩ = some (.int .i64 0) := or7.keeps (by omega) (by first | (go_simp; done) | assumption)
    have k7_5 : w7.cell? ⟨w.heap.size, 5, none⟩ = some (.int .i64 0) := or7.keeps (by omega) (by first | (go_simp; done) | assumption)
    have k7_6 : w7.cell? ⟨w4.heap.size, 0, none⟩ = some (.int .i64 2) := or7.keeps (by omega) (by first | (go_simp; done) | assumption)
    have k7_7 : w7.cell? ⟨w4.heap.size, 1, none⟩ = some (.int .i64 vd) := or7.keeps (by omega) (by first | (go_simp; done) | assumption)
    have k7_8 : w7.cell? ⟨w4.heap.size, 2, none⟩ = some (.int .i64 va) := or7.keeps (by omega) (by first | (go_simp; done) | assumption)
    have k7_9 : w7.cell? ⟨w4.heap.size, 3, none⟩ = some (.int .i64 vb) := or7.keeps (by omega) (by first | (go_simp; done) | assumption)
    have k7_10 : w7.cell? ⟨w4.heap.size, 4, none⟩ = some (.int .i64 vc) := or7.keeps (by omega) (by first | (go_simp; done) | assumption)
    have k7_11 : w7.cell? ⟨w4.heap.size, 5, none⟩ = some (.int .i64 0) := or7.keeps (by omega) (by first | (go_simp; done) | assumption)
    have f7_0 : w7.frozen? ⟨w.heap.size, 0, none⟩ = false := or7.free (by omega) (by first | omega | (simp; done) | (simp; omega)) (by first | (go_simp; done) | assumption)
    have f7_1 : w7.frozen? ⟨w.heap.size, 1, none⟩ = false := or7.free (by omega) (by first | omega | (simp; done) | (simp; omega)) (by first | (go_simp; done) | assumption)
    have f7_2 : w7.frozen? ⟨w.heap.size, 2, none⟩ = false := or7.free (by omega) (by first | omega | (simp; done) | (simp; omega)) (by first | (go_simp; done) | assumption)
    have f7_3 : w7.frozen? ⟨w.heap.size, 3, none⟩ = false := or7.free (by omega) (by first | omega | (simp; done) | (simp; omega)) (by first | (go_simp; done) | assumption)
    have f7_4 : w7.frozen? ⟨w.heap.size, 4, none⟩ = false := or7.free (by omega) (by first | omega | (simp; done) | (simp; omega)) (by first | (go_simp; done) | assumption)
    have f7_5 : w7.frozen? ⟨w.heap.size, 5, none⟩ = false := or7.free (by omega) (by first | omega | (simp; done) | (simp; omega)) (by first | (go_simp; done) | assumption)
    have f7_6 : w7.frozen? ⟨w4.heap.size, 0, none⟩ = false := or7.free (by omega) (by first | omega | (simp; done) | (simp; omega)) (by first | (go_simp; done) | assumption)
    have f7_7 : w7.frozen? ⟨w4.heap.size, 1, none⟩ = false := or7.free (by omega) (by first | omega | (simp; done) | (simp; omega)) (by first | (go_simp; done) | assumption)
    have f7_8 : w7.frozen? ⟨w4.heap.size, 2, none⟩ = false := or7.free (by omega) (by first | omega | (simp; done) | (simp; omega)) (by first | (go_simp; done) | assumption)
    have f7_9 : w7.frozen? ⟨w4.heap.size, 3, none⟩ = false := or7.free (by omega) (by first | omega | (simp; done) | (simp; omega)) (by first | (go_simp; done) | assumption)
    have f7_10 : w7.frozen? ⟨w4.heap.size, 4, none⟩ = false := or7.free (by omega) (by first | omega | (simp; done) | (simp; omega)) (by first | (go_simp; done) | assumption)
    have f7_11 : w7.frozen? ⟨w4.heap.size, 5, none⟩ = false := or7.free (by omega) (by first | omega | (simp; done) | (simp; omega)) (by first | (go_simp; done) | assumption)
    clear k6_0 k6_1 k6_2 k6_3 k6_4 k6_5 k6_6 k6_7 k6_8 k6_9 k6_10 k6_11 f6_0 f6_1 f6_2 f6_3 f6_4 f6_5 f6_6 f6_7 f6_8 f6_9 f6_10 f6_11
    go_wp2_with fail
    refine (below_dr g xs ad c 2 _ (hd7.keep fun q hq => (by (repeat (first | with_reducible exact Kp.refl _ _ | (with_reducible refine Kp.rng ?_ (by assumption) ?_) | (with_reducible refine Kp.below ?_ (by assumption)) | (with_reducible refine Kp.grown ?_ (by assumption) ?_) | (with_reducible refine Kp.alloc ?_ _) | (with_reducible refine Kp.drew ?_) | (with_reducible refine Kp.drewN ?_ _) | (with_reducible refine Kp.setCell ?_ _ ?_))) <;> (first | omega | (simp; done) | (simp; omega))))).mono ?_
    rintro e w8 ⟨vn, rfl, vn0, vn1, _, hd8, ob8, or8⟩
    have vn1 := vn1 (by omega)
    have z8 := ob8.size
    (try simp at z8)
    have y8_0 : w.heap.size < w8.heap.size := (by omega)
    have y8_1 : w4.heap.size < w8.heap.size := (by omega)
    have k8_0 : w8.cell? ⟨w.heap.size, 0, none⟩ = some (.int .i64 0) := or8.keeps (by omega) (by first | (go_simp; done) | assumption)
    have k8_1 : w8.cell? ⟨w.heap.size, 1, none⟩ = some (.int .i64 0) := or8.keeps (by omega) (by first | (go_simp; done) | assumption)
    have k8_2 : w8.cell? ⟨w.heap.size, 2, none⟩ = some (.int .i64 0) := or8.keeps (by omega) (by first | (go_simp; done) | assumption)
    have k8_3 : w8.cell? ⟨w.heap.size, 3, none⟩ = some (.int .i64 0) := or8.keeps (by omega) (by first | (go_simp; done) | assumption)
    have k8_4 : w8.cell? ⟨w.heap.size, 4, none⟩ = some (.int .i64 0) := or8.keeps (by omega) (by first | (go_simp; done) | assumption)
    have k8_5 : w8.cell? ⟨w.heap.size, 5, none⟩ = some (.int .i64 0) := or8.keeps (by omega) (by first | (go_simp; done) | assumption)
    have k8_6 : w8.cell? ⟨w4.heap.size, 0, none⟩ = some (.int .i64 2) := or8.keeps (by omega) (by first | (go_simp; done) | assumption)
    have k8_7 : w8.cell? ⟨w4.heap.size, 1, none⟩ = some (.int .i64 vd) := or8.keeps (by omega) (by first | (go_simp; done) | assumption)
    have k8_8 : w8.cell? ⟨w4.heap.size, 2, none⟩ = some (.int .i64 va2) := or8.keeps (by omega) (by first | (go_simp; done) | assumption)
    have k8_9 : w8.cell? ⟨w4.heap.size, 3, none⟩ = some (.int .i64 vb) := or8.keeps (by omega) (by first | (go_simp; done) | assumption)
    have k8_10 : w8.cell? ⟨w4.heap.size, 4, none⟩ = some (.int .i64 vc) := or8.keeps (by omega) (by first | (go_simp; done) | assumption)
    have k8_11 : w8.cell? ⟨w4.heap.size, 5, none⟩ = some (.int .i64 0) := or8.keeps (by omega) (by first | (go_simp; done) | assumption)
    have f8_0 : w8.frozen? ⟨w.heap.size, 0, none⟩ = false := or8.free (by omega) (by first | omega | (simp; done) | (simp; omega)) (by first | (go_simp; done) | assumption)
    have f8_1 : w8.frozen? ⟨w.heap.size, 1, none⟩ = false := or8.free (by omega) (by first | omega | (simp; done) | (simp; omega)) (by first | (go_simp; done) | assumption)
    have f8_2 : w8.frozen? ⟨w.heap.size, 2, none⟩ = false := or8.free (by omega) (by first | omega | (simp; done) | (simp; omega)) (by first | (go_simp; done) | assumption)
    have f8_3 : w8.frozen? ⟨w.heap.size, 3, none⟩ = false := or8.free (by omega) (by first | omega | (simp; done) | (simp; omega)) (by first | (go_simp; done) | assumption)
    have f8_4 : w8.frozen? ⟨w.heap.size, 4, none⟩ = false := or8.free (by omega) (by first | omega | (simp; done) | (simp; omega)) (by first | (go_simp; done) | assumption)
    have f8_5 : w8.frozen? ⟨w.heap.size, 5, none⟩ = false := or8.free (by omega) (by first | omega | (simp; done) | (simp; omega)) (by first | (go_simp; done) | assumption)
    have f8_6 : w8.frozen? ⟨w4.heap.size, 0, none⟩ = false := or8.free (by omega) (by first | omega | (simp; done) | (simp; omega)) (by first | (go_simp; done) | assumption)
    have f8_7 : w8.frozen? ⟨w4.heap.size, 1, none⟩ = false := or8.free (by omega) (by first | omega | (simp; done) | (simp; omega)) (by first | (go_simp; done) | assumption)
    have f8_8 : w8.frozen? ⟨w4.heap.size, 2, none⟩ = false := or8.free (by omega) (by first | omega | (simp; done) | (simp; omega)) (by first | (go_simp; done) | assumption)
    have f8_9 : w8.frozen? ⟨w4.heap.size, 3, none⟩ = false := or8.free (by omega) (by first | omega | (simp; done) | (simp; omega)) (by first | (go_simp; done) | assumption)
    have f8_10 : w8.frozen? ⟨w4.heap.size, 4, none⟩ = false := or8.free (by omega) (by first | omega | (simp; done) | (simp; omega)) (by first | (go_simp; done) | assumption)
    have f8_11 : w8.frozen? ⟨w4.heap.size, 5, none⟩ = false := or8.free (by omega) (by first | omega | (simp; done) | (simp; omega)) (by first | (go_simp; done) | assumption)
    clear k7_0 k7_1 k7_2 k7_3 k7_4 k7_5 k7_6 k7_7 k7_8 k7_9 k7_10 k7_11 f7_0 f7_1 f7_2 f7_3 f7_4 f7_5 f7_6 f7_7 f7_8 f7_9 f7_10 f7_11
    have hp : plainS ⟨2, vd, va2, vb, vc, vn⟩ = ⟨2, vd, va2, 0, 0, vn⟩ := by simp [plainS, inB]
    have hok : plain1 ⟨2, vd, va2, 0, 0, vn⟩ := by refine ⟨?_, by simp, by simp⟩; simp [stOk, inB]; try omega
    go_wp2_with fail
    refine (l08Plain_any ⟨2, vd, va2, vb, vc, vn⟩ _).mono ?_
    rw [hp]
    rintro e w9 ⟨rfl, hb9⟩
    have z9 := hb9.size
    (try simp at z9)
    have y9_0 : w.heap.size < w9.heap.size := (by omega)
    have y9_1 : w4.heap.size < w9.heap.size := (by omega)
    have k9_0 := bel_keeps hb9 (b := w.heap.size) (o := 0) (v := .int .i64 0) (by first | (go_simp; done) | assumption)
    have k9_1 := bel_keeps hb9 (b := w.heap.size) (o := 1) (v := .int .i64 0) (by first | (go_simp; done) | assumption)
    have k9_2 := bel_keeps hb9 (b := w.heap.size) (o := 2) (v := .int .i64 0) (by first | (go_simp; done) | assumption)
    have k9_3 := bel_keeps hb9 (b := w.heap.size) (o := 3) (v := .int .i64 0) (by first | (go_simp; done) | assumption)
    have k9_4 := bel_keeps hb9 (b := w.heap.size) (o := 4) (v := .int .i64 0) (by first | (go_simp; done) | assumption)
    have k9_5 := bel_keeps hb9 (b := w.heap.size) (o := 5) (v := .int .i64 0) (by first | (go_simp; done) | assumption)
    have k9_6 := bel_keeps hb9 (b := w4.heap.size) (o := 0) (v := .int .i64 2) (by first | (go_simp; done) | assumption)
    have k9_7 := bel_keeps hb9 (b := w4.heap.size) (o := 1) (v := .int .i64 vd) (by first | (go_simp; done) | assumption)
    have k9_8 := bel_keeps hb9 (b := w4.heap.size) (o := 2) (v := .int .i64 va2) (by first | (go_simp; done) | assumption)
    have k9_9 := bel_keeps hb9 (b := w4.heap.size) (o := 3) (v := .int .i64 vb) (by first | (go_simp; done) | assumption)
    have k9_10 := bel_keeps hb9 (b := w4.heap.size) (o := 4) (v := .int .i64 vc) (by first | (go_simp; done) | assumption)
    have k9_11 := bel_keeps hb9 (b := w4.heap.size) (o := 5) (v := .int .i64 vn) (by first | (go_simp; done) | assumption)
    have f9_0 := bel_free hb9 (b := w.heap.size) (o := 0) (by first | omega | (simp; done) | (simp; omega)) (by first | (go_simp; done) | assumption)
    have f9_1 := bel_free hb9 (b := w.heap.size) (o := 1) (by first | omega | (simp; done) | (simp; omega)) (by first | (go_simp; done) | assumption)
    have f9_2 := bel_free hb9 (b := w.heap.size) (o := 2) (by first | omega | (simp; done) | (simp; omega)) (by first | (go_simp; done) | assumption)
    have f9_3 := bel_free hb9 (b := w.heap.size) (o := 3) (by first | omega | (simp; done) | (simp; omega)) (by first | (go_simp; done) | assumption)
    have f9_4 := bel_free hb9 (b := w.heap.size) (o := 4) (by first | omega | (simp; done) | (simp; omega)) (by first | (go_simp; done) | assumption)
    have f9_5 := bel_free hb9 (b := w.heap.size) (o := 5) (by first | omega | (simp; done) | (simp; omega)) (by first | (go_simp; done) | assumption)
    have f9_6 := bel_free hb9 (b := w4.heap.size) (o := 0) (by first | omega | (simp; done) | (simp; omega)) (by first | (go_simp; done) | assumption)
    have f9_7 := bel_free hb9 (b := w4.heap.size) (o := 1) (by first | omega | (simp; done) | (simp; omega)) (by first | (go_simp; done) | assumption)
    have f9_8 := bel_free hb9 (b := w4.heap.size) (o := 2) (by first | omega | (simp; done) | (simp; omega)) (by first | (go_simp; done) | assumption)
    have f9_9 := bel_free hb9 (b := w4.heap.size) (o := 3) (by first | omega | (simp; done) | (simp; omega)) (by first | (go_simp; done) | assumption)
    have f9_10 := bel_free hb9 (b := w4.heap.size) (o := 4) (by first | omega | (simp; done) | (simp; omega)) (by first | (go_simp; done) | assumption)
    have f9_11 := bel_free hb9 (b := w4.heap.size) (o := 5) (by first | omega | (simp; done) | (simp; omega)) (by first | (go_simp; done) | assumption)
    clear k8_0 k8_1 k8_2 k8_3 k8_4 k8_5 k8_6 k8_7 k8_8 k8_9 k8_10 k8_11 f8_0 f8_1 f8_2 f8_3 f8_4 f8_5 f8_6 f8_7 f8_8 f8_9 f8_10 f8_11
    unfold stV
    go_wp2_with fail
    refine bodyPost_ret (v := .agg #[.int .i64 (2), .int .i64 (vd), .int .i64 (va2), .int .i64 (0), .int .i64 (0), .int .i64 (vn)]) (by simp [results, Tryd.results67, go_sem, k9_0, k9_1, k9_2, k9_3, k9_4, k9_5, f9_0, f9_1, f9_2, f9_3, f9_4, f9_5]) rfl ⟨⟨2, vd, va2, 0, 0, vn⟩, rfl, hok, hd8.keep fun q hq => (by (repeat (first | with_reducible exact Kp.refl _ _ | (with_reducible refine Kp.rng ?_ (by assumption) ?_) | (with_reducible refine Kp.below ?_ (by assumption)) | (with_reducible refine Kp.grown ?_ (by assumption) ?_) | (with_reducible refine Kp.alloc ?_ _) | (with_reducible refine Kp.drew ?_) | (with_reducible refine Kp.drewN ?_ _) | (with_reducible refine Kp.setCell ?_ _ ?_))) <;> (first | omega | (simp; done) | (simp; omega))), ⟨(by (repeat (first | with_reducible exact Below.refl _ _ | (with_reducible refine bel_next ?_ ?_ (by assumption)) | (with_reducible refine Below.alloc ?_ ?_ _) | (with_reducible refine Below.drew ?_) | (with_reducible refine below_drewN ?_ _) | (with_reducible refine Below.setCell ?_ ?_ _))) <;> (first | omega | (simp; done) | (simp; omega))), fun q hq => Kp.of_lt fun hql => (by (repeat (first | with_reducible exact Kp.refl _ _ | (with_reducible refine Kp.rng ?_ (by assumption) ?_) | (with_reducible refine Kp.below ?_ (by assumption)) | (with_reducible refine Kp.grown ?_ (by assumption) ?_) | (with_reducible refine Kp.alloc ?_ _) | (with_reducible refine Kp.drew ?_) | (with_reducible refine Kp.drewN ?_ _) | (with_reducible refine Kp.setCell ?_ _ ?_))) <;> (first | omega | (simp; done) | (simp; omega)))⟩⟩
  ·
    go_wp2_with fail
    refine (below_dr g xs ad c 3 _ (hd6.keep fun q hq => (by (repeat (first | with_reducible exact Kp.refl _ _ | (with_reducible refine Kp.rng ?_ (by assumption) ?_) | (with_reducible refine Kp.below ?_ (by assumption)) | (with_reducible refine Kp.grown ?_ (by assumption) ?_) | (with_reducible refine Kp.alloc ?_ _) | (with_reducible refine Kp.drew ?_) | (with_reducible refine Kp.drewN ?_ _) | (with_reducible refine Kp.setCell ?_ _ ?_))) <;> (first | omega | (simp; done) | (simp; omega))))).mono ?_
    rintro e w7 ⟨va2, rfl, va20, va21, _, hd7, ob7, or7⟩
    have va21 := va21 (by omega)
    have z7 := ob7.size
    (try simp at z7)
    have y7_0 : w.heap.size < w7.heap.size := (by omega)
    have y7_1 : w4.heap.size < w7.heap.size := (by omega)
    have k7_0 : w7.cell? ⟨w.heap.size, 0, none⟩ = some (.int .i64 0) := or7.keeps (by omega) (by first | (go_simp; done) | assumption)
    have k7_1 : w7.cell? ⟨w.heap.size, 1, none⟩ = some (.int .i64 0) := or7.keeps (by omega) (by first | (go_simp; done) | assumption)
    have k7_2 : w7.cell? ⟨w.heap.size, 2, none⟩ = some (.int .i64 0) := or7.keeps (by omega) (by first | (go_simp; done) | assumption)
    have k7_3 : w7.cell? ⟨w.heap.size, 3, none⟩ = some (.int .i64 0) := or7.keeps (by omega) (by first | (go_simp; done) | assumption)
    have k7_4 : w7.cell? ⟨w.heap.size, 4, none⟩ = some (.int .i64 0) := or7.keeps (by omega) (by first | (go_simp; done) | assumption)
    have k7_5 : w7.cell? ⟨w.heap.size, 5, none⟩ = some (.int .i64 0) := or7.keeps (by omega) (by first | (go_simp; done) | assumption)
    have k7_6 : w7.cell? ⟨w4.heap.size, 0, none⟩ = some (.int .i64 2) := or7.keeps (by omega) (by first | (go_simp; done) | assumption)
    have k7_7 : w7.cell? ⟨w4.heap.size, 1, none⟩ = some (.int .i64 vd) := or7.keeps (by omega) (by first | (go_simp; done) | assumption)
    have k7_8 : w7.cell? ⟨w4.heap.size, 2, none⟩ = some (.int .i64 va) := or7.keeps (by omega) (by first | (go_simp; done) | assumption)
    have k7_9 : w7.cell? ⟨w4.heap.size, 3, none⟩ = some (.int .i64 vb) := or7.keeps (by omega) (by first | (go_simp; done) | assumption)
    have k7_10 : w7.cell? ⟨w4.heap.size, 4, none⟩ = some (.int .i64 vc) := or7.keeps (by omega) (by first | (go_simp; done) | assumption)
    have k7_11 : w7.cell? ⟨w4.heap.size, 5, none⟩ = some (.int .i64 0) := or7.keeps (by omega) (by first | (go_simp; done) | assumption)
    have f7_0 : w7.frozen? ⟨w.heap.size, 0, none⟩ = false := or7.free (by omega) (by first | omega | (simp; done) | (simp; omega)) (by first | (go_simp; done) | assumption)
    have f7_1 : w7.frozen? ⟨w.heap.size, 1, none⟩ = false := or7.free (by omega) (by first | omega | (simp; done) | (simp; omega)) (by first | (go_simp; done) | assumption)
    have f7_2 : w7.frozen? ⟨w.heap.size, 2, none⟩ = false := or7.free (by omega) (by first | omega | (simp; done) | (simp; omega)) (by first | (go_simp; done) | assumption)
    have f7_3 : w7.frozen? ⟨w.heap.size, 3, none⟩ = false := or7.free (by omega) (by first | omega | (simp; done) | (simp; omega)) (by first | (go_simp; done) | assumption)
    have f7_4 : w7.frozen? ⟨w.heap.size, 4, none⟩ = false := or7.free (by omega) (by first | omega | (simp; done) | (simp; omega)) (by first | (go_simp; done) | assumption)
    have f7_5 : w7.frozen? ⟨w.heap.size, 5, none⟩ = false := or7.free (by omega) (by first | omega | (simp; done) | (simp; omega)) (by first | (go_simp; done) | assumption)
    have f7_6 : w7.frozen? ⟨w4.heap.size, 0, none⟩ = false := or7.free (by omega) (by first | omega | (simp; done) | (simp; omega)) (by first | (go_simp; done) | assumption)
    have f7_7 : w7.frozen? ⟨w4.heap.size, 1, none⟩ = false := or7.free (by omega) (by first | omega | (simp; done) | (simp; omega)) (by first | (go_simp; done) | assumption)
    have f7_8 : w7.frozen? ⟨w4.heap.size, 2, none⟩ = false := or7.free (by omega) (by first | omega | (simp; done) | (simp; omega)) (by first | (go_simp; done) | assumption)
    have f7_9 : w7.frozen? ⟨w4.heap.size, 3, none⟩ = false := or7.free (by omega) (by first | omega | (simp; done) | (simp; omega)) (by first | (go_simp; done) | assumption)
    have f7_10 : w7.frozen? ⟨w4.heap.size, 4, none⟩ = false := or7.free (by omega) (by first | omega | (simp; done) | (simp; omega)) (by first | (go_simp; done) | assumption)
    have f7_11 : w7.frozen? ⟨w4.heap.size, 5, none⟩ = false := or7.free (by omega) (by first | omega | (simp; done) | (simp; omega)) (by first | (go_simp; done) | assumption)
    clear k6_0 k6_1 k6_2 k6_3 k6_4 k6_5 k6_6 k6_7 k6_8 k6_9 k6_10 k6_11 f6_0 f6_1 f6_2 f6_3 f6_4 f6_5 f6_6 f6_7 f6_8 f6_9 f6_10 f6_11
    go_wp2_with fail
    refine (below_dr g xs ad c 2 _ (hd7.keep fun q hq => (by (repeat (first | with_reducible exact Kp.refl _ _ | (with_reducible refine Kp.rng ?_ (by assumption) ?_) | (with_reducible refine Kp.below ?_ (by assumption)) | (with_reducible refine Kp.grown ?_ (by assumption) ?_) | (with_reducible refine Kp.alloc ?_ _) | (with_reducible refine Kp.drew ?_) | (with_reducible refine Kp.drewN ?_ _) | (with_reducible refine Kp.setCell ?_ _ ?_))) <;> (first | omega | (simp; done) | (simp; omega))))).mono ?_
    rintro e w8 ⟨vn, rfl, vn0, vn1, _, hd8, ob8, or8⟩
    have vn1 := vn1 (by omega)
    have z8 := ob8.size
    (try simp at z8)
    have y8_0 : w.heap.size < w8.heap.size := (by omega)
    have y8_1 : w4.heap.size < w8.heap.size := (by omega)
    have k8_0 : w8.cell? ⟨w.heap.size, 0, none⟩ = some (.int .i64 0) := or8.keeps (by omega) (by first | (go_simp; done) | assumption)
    have k8_1 : w8.cell? ⟨w.heap.size, 1, none⟩ = some (.int .i64 0) := or8.keeps (by omega) (by first | (go_simp; done) | assumption)
    have k8_2 : w8.cell? ⟨w.heap.size, 2, none⟩ = some (.int .i64 0) := or8.keeps (by omega) (by first | (go_simp; done) | assumption)
    have k8_3 : w8.cell? ⟨w.heap.size, 3, none⟩ = some (.int .i64 0) := or8.keeps (by omega) (by first | (go_simp; done) | assumption)
    have k8_4 : w8.cell? ⟨w.heap.size, 4, none⟩ = some (.int .i64 0) := or8.keeps (by omega) (by first | (go_simp; done) | assumption)
    have k8_5 : w8.cell? ⟨w.heap.size, 5, none⟩ = some (.int .i64 0) := or8.keeps (by omega) (by first | (go_simp; done) | assumption)
    have k8_6 : w8.cell? ⟨w4.heap.size, 0, none⟩ = some (.int .i64 2) := or8.keeps (by omega) (by first | (go_simp; done) | assumption)
    have k8_7 : w8.cell? ⟨w4.heap.size, 1, none⟩ = some (.int .i64 vd) := or8.keeps (by omega) (by first | (go_simp; done) | assumption)
    have k8_8 : w8.cell? ⟨w4.heap.size, 2, none⟩ = some (.int .i64 va2) := or8.keeps (by omega) (by first | (go_simp; done) | assumption)
    have k8_9 : w8.cell? ⟨w4.heap.size, 3, none⟩ = some (.int .i64 vb) := or8.keeps (by omega) (by first | (go_simp; done) | assumption)
    have k8_10 : w8.cell? ⟨w4.heap.size, 4, none⟩ = some (.int .i64 vc) := or8.keeps (by omega) (by first | (go_simp; done) | assumption)
    have k8_11 : w8.cell? ⟨w4.heap.size, 5, none⟩ = some (.int .i64 0) := or8.keeps (by omega) (by first | (go_simp; done) | assumption)
    have f8_0 : w8.frozen? ⟨w.heap.size, 0, none⟩ = false := or8.free (by omega) (by first | omega | (simp; done) | (simp; omega)) (by first | (go_simp; done) | assumption)
    have f8_1 : w8.frozen? ⟨w.heap.size, 1, none⟩ = false := or8.free (by omega) (by first | omega | (simp; done) | (simp; omega)) (by first | (go_simp; done) | assumption)
    have f8_2 : w8.frozen? ⟨w.heap.size, 2, none⟩ = false := or8.free (by omega) (by first | omega | (simp; done) | (simp; omega)) (by first | (go_simp; done) | assumption)
    have f8_3 : w8.frozen? ⟨w.heap.size, 3, none⟩ = false := or8.free (by omega) (by first | omega | (simp; done) | (simp; omega)) (by first | (go_simp; done) | assumption)
    have f8_4 : w8.frozen? ⟨w.heap.size, 4, none⟩ = false := or8.free (by omega) (by first | omega | (simp; done) | (simp; omega)) (by first | (go_simp; done) | assumption)
    have f8_5 : w8.frozen? ⟨w.heap.size, 5, none⟩ = false := or8.free (by omega) (by first | omega | (simp; done) | (simp; omega)) (by first | (go_simp; done) | assumption)
    have f8_6 : w8.frozen? ⟨w4.heap.size, 0, none⟩ = false := or8.free (by omega) (by first | omega | (simp; done) | (simp; omega)) (by first | (go_simp; done) | assumption)
    have f8_7 : w8.frozen? ⟨w4.heap.size, 1, none⟩ = false := or8.free (by omega) (by first | omega | (simp; done) | (simp; omega)) (by first | (go_simp; done) | assumption)
    have f8_8 : w8.frozen? ⟨w4.heap.size, 2, none⟩ = false := or8.free (by omega) (by first | omega | (simp; done) | (simp; omega)) (by first | (go_simp; done) | assumption)
    have f8_9 : w8.frozen? ⟨w4.heap.size, 3, none⟩ = false := or8.free (by omega) (by first | omega | (simp; done) | (simp; omega)) (by first | (go_simp; done) | assumption)
    have f8_10 : w8.frozen? ⟨w4.heap.size, 4, none⟩ = false := or8.free (by omega) (by first | omega | (simp; done) | (simp; omega)) (by first | (go_simp; done) | assumption)
    have f8_11 : w8.frozen? ⟨w4.heap.size, 5, none⟩ = false := or8.free (by omega) (by first | omega | (simp; done) | (simp; omega)) (by first | (go_simp; done) | assumption)
    clear k7_0 k7_1 k7_2 k7_3 k7_4 k7_5 k7_6 k7_7 k7_8 k7_9 k7_10 k7_11 f7_0 f7_1 f7_2 f7_3 f7_4 f7_5 f7_6 f7_7 f7_8 f7_9 f7_10 f7_11
    have hp : plainS ⟨2, vd, va2, vb, vc, vn⟩ = ⟨2, vd, va2, 0, 0, vn⟩ := by simp [plainS, inB]
    have hok : plain1 ⟨2, vd, va2, 0, 0, vn⟩ := by refine ⟨?_, by simp, by simp⟩; simp [stOk, inB]; try omega
    go_wp2_with fail
    refine (l08Plain_any ⟨2, vd, va2, vb, vc, vn⟩ _).mono ?_
    rw [hp]
    rintro e w9 ⟨rfl, hb9⟩
    have z9 := hb9.size
    (try simp at z9)
    have y9_0 : w.heap.size < w9.heap.size := (by omega)
    have y9_1 : w4.heap.size < w9.heap.size := (by omega)
    have k9_0 := bel_keeps hb9 (b := w.heap.size) (o := 0) (v := .int .i64 0) (by first | (go_simp; done) | assumption)
    have k9_1 := bel_keeps hb9 (b := w.heap.size) (o := 1) (v := .int .i64 0) (by first | (go_simp; done) | assumption)
    have k9_2 := bel_keeps hb9 (b := w.heap.size) (o := 2) (v := .int .i64 0) (by first | (go_simp; done) | assumption)
    have k9_3 := bel_keeps hb9 (b := w.heap.size) (o := 3) (v := .int .i64 0) (by first | (go_simp; done) | assumption)
    have k9_4 := bel_keeps hb9 (b := w.heap.size) (o := 4) (v := .int .i64 0) (by first | (go_simp; done) | assumption)
    have k9_5 := bel_keeps hb9 (b := w.heap.size) (o := 5) (v := .int .i64 0) (by first | (go_simp; done) | assumption)
    have k9_6 := bel_keeps hb9 (b := w4.heap.size) (o := 0) (v := .int .i64 2) (by first | (go_simp; done) | assumption)
    have k9_7 := bel_keeps hb9 (b := w4.heap.size) (o := 1) (v := .int .i64 vd) (by first | (go_simp; done) | assumption)
    have k9_8 := bel_keeps hb9 (b := w4.heap.size) (o := 2) (v := .int .i64 va2) (by first | (go_simp; done) | assumption)
    have k9_9 := bel_keeps hb9 (b := w4.heap.size) (o := 3) (v := .int .i64 vb) (by first | (go_simp; done) | assumption)
    have k9_10 := bel_keeps hb9 (b := w4.heap.size) (o := 4) (v := .int .i64 vc) (by first | (go_simp; done) | assumption)
    have k9_11 := bel_keeps hb9 (b := w4.heap.size) (o := 5) (v := .int .i64 vn) (by first | (go_simp; done) | assumption)
    have f9_0 := bel_free hb9 (b := w.heap.size) (o := 0) (by first | omega | (simp; done) | (simp; omega)) (by first | (go_simp; done) | assumption)
    have f9_1 := bel_free hb9 (b := w.heap.size) (o := 1) (by first | omega | (simp; done) | (simp; omega)) (by first | (go_simp; done) | assumption)
    have f9_2 := bel_free hb9 (b := w.heap.size) (o := 2) (by first | omega | (simp; done) | (simp; omega)) (by first | (go_simp; done) | assumption)
    have f9_3 := bel_free hb9 (b := w.heap.size) (o := 3) (by first | omega | (simp; done) | (simp; omega)) (by first | (go_simp; done) | assumption)
    have f9_4 := bel_free hb9 (b := w.heap.size) (o := 4) (by first | omega | (simp; done) | (simp; omega)) (by first | (go_simp; done) | assumption)
    have f9_5 := bel_free hb9 (b := w.heap.size) (o := 5) (by first | omega | (simp; done) | (simp; omega)) (by first | (go_simp; done) | assumption)
    have f9_6 := bel_free hb9 (b := w4.heap.size) (o := 0) (by first | omega | (simp; done) | (simp; omega)) (by first | (go_simp; done) | assumption)
    have f9_7 := bel_free hb9 (b := w4.heap.size) (o := 1) (by first | omega | (simp; done) | (simp; omega)) (by first | (go_simp; done) | assumption)
    have f9_8 := bel_free hb9 (b := w4.heap.size) (o := 2) (by first | omega | (simp; done) | (simp; omega)) (by first | (go_simp; done) | assumption)
    have f9_9 := bel_free hb9 (b := w4.heap.size) (o := 3) (by first | omega | (simp; done) | (simp; omega)) (by first | (go_simp; done) | assumption)
    have f9_10 := bel_free hb9 (b := w4.heap.size) (o := 4) (by first | omega | (simp; done) | (simp; omega)) (by first | (go_simp; done) | assumption)
    have f9_11 := bel_free hb9 (b := w4.heap.size) (o := 5) (by first | omega | (simp; done) | (simp; omega)) (by first | (go_simp; done) | assumption)
    clear k8_0 k8_1 k8_2 k8_3 k8_4 k8_5 k8_6 k8_7 k8_8 k8_9 k8_10 k8_11 f8_0 f8_1 f8_2 f8_3 f8_4 f8_5 f8_6 f8_7 f8_8 f8_9 f8_10 f8_11
    unfold stV
    go_wp2_with fail
    refine bodyPost_ret (v := .agg #[.int .i64 (2), .int .i64 (vd), .int .i64 (va2), .int .i64 (0), .int .i64 (0), .int .i64 (vn)]) (by simp [results, Tryd.results67, go_sem, k9_0, k9_1, k9_2, k9_3, k9_4, k9_5, f9_0, f9_1, f9_2, f9_3, f9_4, f9_5]) rfl ⟨⟨2, vd, va2, 0, 0, vn⟩, rfl, hok, hd8.keep fun q hq => (by (repeat (first | with_reducible exact Kp.refl _ _ | (with_reducible refine Kp.rng ?_ (by assumption) ?_) | (with_reducible refine Kp.below ?_ (by assumption)) | (with_reducible refine Kp.grown ?_ (by assumption) ?_) | (with_reducible refine Kp.alloc ?_ _) | (with_reducible refine Kp.drew ?_) | (with_reducible refine Kp.drewN ?_ _) | (with_reducible refine Kp.setCell ?_ _ ?_))) <;> (first | omega | (simp; done) | (simp; omega))), ⟨(by (repeat (first | with_reducible exact Below.refl _ _ | (with_reducible refine bel_next ?_ ?_ (by assumption)) | (with_reducible refine Below.alloc ?_ ?_ _) | (with_reducible refine Below.drew ?_) | (with_reducible refine below_drewN ?_ _) | (with_reducible refine Below.setCell ?_ ?_ _))) <;> (first | omega | (simp; done) | (simp; omega))), fun q hq => Kp.of_lt fun hql => (by (repeat (first | with_reducible exact Kp.refl _ _ | (with_reducible refine Kp.rng ?_ (by assumption) ?_) | (with_reducible refine Kp.below ?_ (by assumption)) | (with_reducible refine Kp.grown ?_ (by assumption) ?_) | (with_reducible refine Kp.alloc ?_ _) | (with_reducible refine Kp.drew ?_) | (with_reducible refine Kp.drewN ?_ _) | (with_reducible refine Kp.setCell ?_ _ ?_))) <;> (first | omega | (simp; done) | (simp; omega)))⟩⟩
  ·
    have hp : plainS ⟨10, vd, va, vb, vc, 0⟩ = ⟨10, vd, va, vb, vc, 0⟩ := by simp [plainS, inB]
    have hok : plain1 ⟨10, vd, va, vb, vc, 0⟩ := by refine ⟨?_, by simp, by simp⟩; simp [stOk, inB]; try omega
    go_wp2_with fail
    refine (l08Plain_any ⟨10, vd, va, vb, vc, 0⟩ _).mono ?_
    rw [hp]
    rintro e w7 ⟨rfl, hb7⟩
    have z7 := hb7.size
    (try simp at z7)
    have y7_0 : w.heap.size < w7.heap.size := (by omega)
    have y7_1 : w4.heap.size < w7.heap.size := (by omega)
    have k7_0 := bel_keeps hb7 (b := w.heap.size) (o := 0) (v := .int .i64 0) (by first | (go_simp; done) | assumption)
    have k7_1 := bel_keeps hb7 (b := w.heap.size) (o := 1) (v := .int .i64 0) (by first | (go_simp; done) | assumption)
    have k7_2 := bel_keeps hb7 (b := w.heap.size) (o := 2) (v := .int .i64 0) (by first | (go_simp; done) | assumption)
    have k7_3 := bel_keeps hb7 (b := w.heap.size) (o := 3) (v := .int .i64 0) (by first | (go_simp; done) | assumption)
    have k7_4 := bel_keeps hb7 (b := w.heap.size) (o := 4) (v := .int .i64 0) (by first | (go_simp; done) | assumption)
    have k7_5 := bel_keeps hb7 (b := w.heap.size) (o := 5) (v := .int .i64 0) (by first | (go_simp; done) | assumption)
    have k7_6 := bel_keeps hb7 (b := w4.heap.size) (o := 0) (v := .int .i64 10) (by first | (go_simp; done) | assumption)
    have k7_7 := bel_keeps hb7 (b := w4.heap.size) (o := 1) (v := .int .i64 vd) (by first | (go_simp; done) | assumption)
    have k7_8 := bel_keeps hb7 (b := w4.heap.size) (o := 2) (v := .int .i64 va) (by first | (go_simp; done) | assumption)
    have k7_9 := bel_keeps hb7 (b := w4.heap.size) (o := 3) (v := .int .i64 vb) (by first | (go_simp; done) | assumption)
    have k7_10 := bel_keeps hb7 (b := w4.heap.size) (o := 4) (v := .int .i64 vc) (by first | (go_simp; done) | assumption)
    have k7_11 := bel_keeps hb7 (b := w4.heap.size) (o := 5) (v := .int .i64 0) (by first | (go_simp; done) | assumption)
    have f7_0 := bel_free hb7 (b := w.heap.size) (o := 0) (by first | omega | (simp; done) | (simp; omega)) (by first | (go_simp; done) | assumption)
    have f7_1 := bel_free hb7 (b := w.heap.size) (o := 1) (by first | omega | (simp; done) | (simp; omega)) (by first | (go_simp; done) | assumption)
    have f7_2 := bel_free hb7 (b := w.heap.size) (o := 2) (by first | omega | (simp; done) | (simp; omega)) (by first | (go_simp; done) | assumption)
    have f7_3 := bel_free hb7 (b := w.heap.size) (o := 3) (by first | omega | (simp; done) | (simp; omega)) (by first | (go_simp; done) | assumption)
    have f7_4 := bel_free hb7 (b := w.heap.size) (o := 4) (by first | omega | (simp; done) | (simp; omega)) (by first | (go_simp; done) | assumption)
    have f7_5 := bel_free hb7 (b := w.heap.size) (o := 5) (by first | omega | (simp; done) | (simp; omega)) (by first | (go_simp; done) | assumption)
    have f7_6 := bel_free hb7 (b := w4.heap.size) (o := 0) (by first | omega | (simp; done) | (simp; omega)) (by first | (go_simp; done) | assumption)
    have f7_7 := bel_free hb7 (b := w4.heap.size) (o := 1) (by first | omega | (simp; done) | (simp; omega)) (by first | (go_simp; done) | assumption)
    have f7_8 := bel_free hb7 (b := w4.heap.size) (o := 2) (by first | omega | (simp; done) | (simp; omega)) (by first | (go_simp; done) | assumption)
    have f7_9 := bel_free hb7 (b := w4.heap.size) (o := 3) (by first | omega | (simp; done) | (simp; omega)) (by first | (go_simp; done) | assumption)
    have f7_10 := bel_free hb7 (b := w4.heap.size) (o := 4) (by first | omega | (simp; done) | (simp; omega)) (by first | (go_simp; done) | assumption)
    have f7_11 := bel_free hb7 (b := w4.heap.size) (o := 5) (by first | omega | (simp; done) | (simp; omega)) (by first | (go_simp; done) | assumption)
    clear k6_0 k6_1 k6_2 k6_3 k6_4 k6_5 k6_6 k6_7 k6_8 k6_9 k6_10 k6_11 f6_0 f6_1 f6_2 f6_3 f6_4 f6_5 f6_6 f6_7 f6_8 f6_9 f6_10 f6_11
    unfold stV
    go_wp2_with fail
    refine bodyPost_ret (v := .agg #[.int .i64 (10), .int .i64 (vd), .int .i64 (va), .int .i64 (vb), .int .i64 (vc), .int .i64 (0)]) (by simp [results, Tryd.results67, go_sem, k7_0, k7_1, k7_2, k7_3, k7_4, k7_5, f7_0, f7_1, f7_2, f7_3, f7_4, f7_5]) rfl ⟨⟨10, vd, va, vb, vc, 0⟩, rfl, hok, hd6.keep fun q hq => (by (repeat (first | with_reducible exact Kp.refl _ _ | (with_reducible refine Kp.rng ?_ (by assumption) ?_) | (with_reducible refine Kp.below ?_ (by assumption)) | (with_reducible refine Kp.grown ?_ (by assumption) ?_) | (with_reducible refine Kp.alloc ?_ _) | (with_reducible refine Kp.drew ?_) | (with_reducible refine Kp.drewN ?_ _) | (with_reducible refine Kp.setCell ?_ _ ?_))) <;> (first | omega | (simp; done) | (simp; omega))), ⟨(by (repeat (first | with_reducible exact Below.refl _ _ | (with_reducible refine bel_next ?_ ?_ (by assumption)) | (with_reducible refine Below.alloc ?_ ?_ _) | (with_reducible refine Below.drew ?_) | (with_reducible refine below_drewN ?_ _) | (with_reducible refine Below.setCell ?_ ?_ _))) <;> (first | omega | (simp; done) | (simp; omega))), fun q hq => Kp.of_lt fun hql => (by (repeat (first | with_reducible exact Kp.refl _ _ | (with_reducible refine Kp.rng ?_ (by assumption) ?_) | (with_reducible refine Kp.below ?_ (by assumption)) | (with_reducible refine Kp.grown ?_ (by assumption) ?_) | (with_reducible refine Kp.alloc ?_ _) | (with_reducible refine Kp.drew ?_) | (with_reducible refine Kp.drewN ?_ _) | (with_reducible refine Kp.setCell ?_ _ ?_))) <;> (first | omega | (simp; done) | (simp; omega)))⟩⟩
  ·
    have hp : plainS ⟨11, vd, va, vb, vc, 0⟩ = ⟨11, 0, va, 0, 0, 0⟩ := by simp [plainS, inB]
    have hok : plain1 ⟨11, 0, va, 0, 0, 0⟩ := by refine ⟨?_, by simp, by simp⟩; simp [stOk, inB]; try omega
    go_wp2_with fail
    refine (l08Plain_any ⟨11, vd, va, vb, vc, 0⟩ _).mono ?_
    rw [hp]
    rintro e w7 ⟨rfl, hb7⟩
    have z7 := hb7.size
    (try simp at z7)
    have y7_0 : w.heap.size < w7.heap.size := (by omega)
    have y7_1 : w4.heap.size < w7.heap.size := (by omega)
    have k7_0 := bel_keeps hb7 (b := w.heap.size) (o := 0) (v := .int .i64 0) (by first | (go_simp; done) | assumption)
    have k7_1 := bel_keeps hb7 (b := w.heap.size) (o := 1) (v := .int .i64 0) (by first | (go_simp; done) | assumption)
    have k7_2 := bel_keeps hb7 (b := w.heap.size) (o := 2) (v := .int .i64 0) (by first | (go_simp; done) | assumption)
    have k7_3 := bel_keeps hb7 (b := w.heap.size) (o := 3) (v := .int .i64 0) (by first | (go_simp; done) | assumption)
    have k7_4 := bel_keeps hb7 (b := w.heap.size) (o := 4) (v := .int .i64 0) (by first | (go_simp; done) | assumption)
    have k7_5 := bel_keeps hb7 (b := w.heap.size) (o := 5) (v := .int .i64 0) (by first | (go_simp; done) | assumption)
    have k7_6 := bel_keeps hb7 (b := w4.heap.size) (o := 0) (v := .int .i64 11) (by first | (go_simp; done) | assumption)
    have k7_7 := bel_keeps hb7 (b := w4.heap.size) (o := 1) (v := .int .i64 vd) (by first | (go_simp; done) | assumption)
    have k7_8 := bel_keeps hb7 (b := w4.heap.size) (o := 2) (v := .int .i64 va) (by first | (go_simp; done) | assumption)
    have k7_9 := bel_keeps hb7 (b := w4.heap.size) (o := 3) (v := .int .i64 vb) (by first | (go_simp; done) | assumption)
    have k7_10 := bel_keeps hb7 (b := w4.heap.size) (o := 4) (v := .int .i64 vc) (by first | (go_simp; done) | assumption)
    have k7_11 := bel_keeps hb7 (b := w4.heap.size) (o := 5) (v := .int .i64 0) (by first | (go_simp; done) | assumption)
    have f7_0 := bel_free hb7 (b := w.heap.size) (o := 0) (by first | omega | (simp; done) | (simp; omega)) (by first | (go_simp; done) | assumption)
    have f7_1 := bel_free hb7 (b := w.heap.size) (o := 1) (by first | omega | (simp; done) | (simp; omega)) (by first | (go_simp; done) | assumption)
    have f7_2 := bel_free hb7 (b := w.heap.size) (o := 2) (by first | omega | (simp; done) | (simp; omega)) (by first | (go_simp; done) | assumption)
    have f7_3 := bel_free hb7 (b := w.heap.size) (o := 3) (by first | omega | (simp; done) | (simp; omega)) (by first | (go_simp; done) | assumption)
    have f7_4 := bel_free hb7 (b := w.heap.size) (o := 4) (by first | omega | (simp; done) | (simp; omega)) (by first | (go_simp; done) | assumption)
    have f7_5 := bel_free hb7 (b := w.heap.size) (o := 5) (by first | omega | (simp; done) | (simp; omega)) (by first | (go_simp; done) | assumption)
    have f7_6 := bel_free hb7 (b := w4.heap.size) (o := 0) (by first | omega | (simp; done) | (simp; omega)) (by first | (go_simp; done) | assumption)
    have f7_7 := bel_free hb7 (b := w4.heap.size) (o := 1) (by first | omega | (simp; done) | (simp; omega)) (by first | (go_simp; done) | assumption)
    have f7_8 := bel_free hb7 (b := w4.heap.size) (o := 2) (by first | omega | (simp; done) | (simp; omega)) (by first | (go_simp; done) | assumption)
    have f7_9 := bel_free hb7 (b := w4.heap.size) (o := 3) (by first | omega | (simp; done) | (simp; omega)) (by first | (go_simp; done) | assumption)
    have f7_10 := bel_free hb7 (b := w4.heap.size) (o := 4) (by first | omega | (simp; done) | (simp; omega)) (by first | (go_simp; done) | assumption)
    have f7_11 := bel_free hb7 (b := w4.heap.size) (o := 5) (by first | omega | (simp; done) | (simp; omega)) (by first | (go_simp; done) | assumption)
    clear k6_0 k6_1 k6_2 k6_3 k6_4 k6_5 k6_6 k6_7 k6_8 k6_9 k6_10 k6_11 f6_0 f6_1 f6_2 f6_3 f6_4 f6_5 f6_6 f6_7 f6_8 f6_9 f6_10 f6_11
    unfold stV
    go_wp2_with fail
    refine bodyPost_ret (v := .agg #[.int .i64 (11), .int .i64 (0), .int .i64 (va), .int .i64 (0), .int .i64 (0), .int .i64 (0)]) (by simp [results, Tryd.results67, go_sem, k7_0, k7_1, k7_2, k7_3, k7_4, k7_5, f7_0, f7_1, f7_2, f7_3, f7_4, f7_5]) rfl ⟨⟨11, 0, va, 0, 0, 0⟩, rfl, hok, hd6.keep fun q hq => (by (repeat (first | with_reducible exact Kp.refl _ _ | (with_reducible refine Kp.rng ?_ (by assumption) ?_) | (with_reducible refine Kp.below ?_ (by assumption)) | (with_reducible refine Kp.grown ?_ (by assumption) ?_) | (with_reducible refine Kp.alloc ?_ _) | (with_reducible refine Kp.drew ?_) | (with_reducible refine Kp.drewN ?_ _) | (with_reducible refine Kp.setCell ?_ _ ?_))) <;> (first | omega | (simp; done) | (simp; omega))), ⟨(by (repeat (first | with_reducible exact Below.refl _ _ | (with_reducible refine bel_next ?_ ?_ (by assumption)) | (with_reducible refine Below.alloc ?_ ?_ _) | (with_reducible refine Below.drew ?_) | (with_reducible refine below_drewN ?_ _) | (with_reducible refine Below.setCell ?_ ?_ _))) <;> (first | omega | (simp; done) | (simp; omega))), fun q hq => Kp.of_lt fun hql => (by (repeat (first | with_reducible exact Kp.refl _ _ | (with_reducible refine Kp.rng ?_ (by assumption) ?_) | (with_reducible refine Kp.below ?_ (by assumption)) | (with_reducible refine Kp.grown ?_ (by assumption) ?_) | (with_reducible refine Kp.alloc ?_ _) | (with_reducible refine Kp.drew ?_) | (with_reducible refine Kp.drewN ?_ _) | (with_reducible refine Kp.setCell ?_ _ ?_))) <;> (first | omega | (simp; done) | (simp; omega)))⟩⟩
  ·
    have hp : plainS ⟨11, vd, va, vb, vc, 0⟩ = ⟨11, 0, va, 0, 0, 0⟩ := by simp [plainS, inB]
    have hok : plain1 ⟨11, 0, va, 0, 0, 0⟩ := by refine ⟨?_, by simp, by simp⟩; simp [stOk, inB]; try omega
    go_wp2_with fail
    refine (l08Plain_any ⟨11, vd, va, vb, vc, 0⟩ _).mono ?_
    rw [hp]
    rintro e w7 ⟨rfl, hb7⟩
    have z7 := hb7.size
    (try simp at z7)
    have y7_0 : w.heap.size < w7.heap.size := (by omega)
    have y7_1 : w4.heap.size < w7.heap.size := (by omega)
    have k7_0 := bel_keeps hb7 (b := w.heap.size) (o := 0) (v := .int .i64 0) (by first | (go_simp; done) | assumption)
    have k7_1 := bel_keeps hb7 (b := w.heap.size) (o := 1) (v := .int .i64 0) (by first | (go_simp; done) | assumption)
    have k7_2 := bel_keeps hb7 (b := w.heap.size) (o := 2) (v := .int .i64 0) (by first | (go_simp; done) | assumption)
    have k7_3 := bel_keeps hb7 (b := w.heap.size) (o := 3) (v := .int .i64 0) (by first | (go_simp; done) | assumption)
    have k7_4 := bel_keeps hb7 (b := w.heap.size) (o := 4) (v := .int .i64 0) (by first | (go_simp; done) | assumption)
    have k7_5 := bel_keeps hb7 (b := w.heap.size) (o := 5) (v := .int .i64 0) (by first | (go_simp; done) | assumption)
    have k7_6 := bel_keeps hb7 (b := w4.heap.size) (o := 0) (v := .int .i64 11) (by first | (go_simp; done) | assumption)
    have k7_7 := bel_keeps hb7 (b := w4.heap.size) (o := 1) (v := .int .i64 vd) (by first | (go_simp; done) | assumption)
    have k7_8 := bel_keeps hb7 (b := w4.heap.size) (o := 2) (v := .int .i64 va) (by first | (go_simp; done) | assumption)
    have k7_9 := bel_keeps hb7 (b := w4.heap.size) (o := 3) (v := .int .i64 vb) (by first | (go_simp; done) | assumption)
    have k7_10 := bel_keeps hb7 (b := w4.heap.size) (o := 4) (v := .int .i64 vc) (by first | (go_simp; done) | assumption)
    have k7_11 := bel_keeps hb7 (b := w4.heap.size) (o := 5) (v := .int .i64 0) (by first | (go_simp; done) | assumption)
    have f7_0 := bel_free hb7 (b := w.heap.size) (o := 0) (by first | omega | (simp; done) | (simp; omega)) (by first | (go_simp; done) | assumption)
    have f7_1 := bel_free hb7 (b := w.heap.size) (o := 1) (by first | omega | (simp; done) | (simp; omega)) (by first | (go_simp; done) | assumption)
    have f7_2 := bel_free hb7 (b := w.heap.size) (o := 2) (by first | omega | (simp; done) | (simp; omega)) (by first | (go_simp; done) | assumption)
    have f7_3 := bel_free hb7 (b := w.heap.size) (o := 3) (by first | omega | (simp; done) | (simp; omega)) (by first | (go_simp; done) | assumption)
    have f7_4 := bel_free hb7 (b := w.heap.size) (o := 4) (by first | omega | (simp; done) | (simp; omega)) (by first | (go_simp; done) | assumption)
    have f7_5 := bel_free hb7 (b := w.heap.size) (o := 5) (by first | omega | (simp; done) | (simp; omega)) (by first | (go_simp; done) | assumption)
    have f7_6 := bel_free hb7 (b := w4.heap.size) (o := 0) (by first | omega | (simp; done) | (simp; omega)) (by first | (go_simp; done) | assumption)
    have f7_7 := bel_free hb7 (b := w4.heap.size) (o := 1) (by first | omega | (simp; done) | (simp; omega)) (by first | (go_simp; done) | assumption)
    have f7_8 := bel_free hb7 (b := w4.heap.size) (o := 2) (by first | omega | (simp; done) | (simp; omega)) (by first | (go_simp; done) | assumption)
    have f7_9 := bel_free hb7 (b := w4.heap.size) (o := 3) (by first | omega | (simp; done) | (simp; omega)) (by first | (go_simp; done) | assumption)
    have f7_10 := bel_free hb7 (b := w4.heap.size) (o := 4) (by first | omega | (simp; done) | (simp; omega)) (by first | (go_simp; done) | assumption)
    have f7_11 := bel_free hb7 (b := w4.heap.size) (o := 5) (by first | omega | (simp; done) | (simp; omega)) (by first | (go_simp; done) | assumption)
    clear k6_0 k6_1 k6_2 k6_3 k6_4 k6_5 k6_6 k6_7 k6_8 k6_9 k6_10 k6_11 f6_0 f6_1 f6_2 f6_3 f6_4 f6_5 f6_6 f6_7 f6_8 f6_9 f6_10 f6_11
    unfold stV
    go_wp2_with fail
    refine bodyPost_ret (v := .agg #[.int .i64 (11), .int .i64 (0), .int .i64 (va), .int .i64 (0), .int .i64 (0), .int .i64 (0)]) (by simp [results, Tryd.results67, go_sem, k7_0, k7_1, k7_2, k7_3, k7_4, k7_5, f7_0, f7_1, f7_2, f7_3, f7_4, f7_5]) rfl ⟨⟨11, 0, va, 0, 0, 0⟩, rfl, hok, hd6.keep fun q hq => (by (repeat (first | with_reducible exact Kp.refl _ _ | (with_reducible refine Kp.rng ?_ (by assumption) ?_) | (with_reducible refine Kp.below ?_ (by assumption)) | (with_reducible refine Kp.grown ?_ (by assumption) ?_) | (with_reducible refine Kp.alloc ?_ _) | (with_reducible refine Kp.drew ?_) | (with_reducible refine Kp.drewN ?_ _) | (with_reducible refine Kp.setCell ?_ _ ?_))) <;> (first | omega | (simp; done) | (simp; omega))), ⟨(by (repeat (first | with_reducible exact Below.refl _ _ | (with_reducible refine bel_next ?_ ?_ (by assumption)) | (with_reducible refine Below.alloc ?_ ?_ _) | (with_reducible refine Below.drew ?_) | (with_reducible refine below_drewN ?_ _) | (with_reducible refine Below.setCell ?_ ?_ _))) <;> (first | omega | (simp; done) | (simp; omega))), fun q hq => Kp.of_lt fun hql => (by (repeat (first | with_reducible exact Kp.refl _ _ | (with_reducible refine Kp.rng ?_ (by assumption) ?_) | (with_reducible refine Kp.below ?_ (by assumption)) | (with_reducible refine Kp.grown ?_ (by assumption) ?_) | (with_reducible refine Kp.alloc ?_ _) | (with_reducible refine Kp.drew ?_) | (with_reducible refine Kp.drewN ?_ _) | (with_reducible refine Kp.setCell ?_ _ ?_))) <;> (first | omega | (simp; done) | (simp; omega)))⟩⟩
  ·
    have q0 : (x == 0) = false := by simp; omega
    have q1 : (x == 1) = false := by simp; omega
    have q2 : (x == 2) = false := by simp; omega
    have q3 : (x == 3) = false := by simp; omega
    have q4 : (x == 4) = false := by simp; omega
    have q5 : (x == 5) = false := by simp; omega
    have q6 : (x == 6) = false := by simp; omega
    go_wp2_with fail
    refine (below_dr g xs ad c 7 _ (hd6.keep fun q hq => (by (repeat (first | with_reducible exact Kp.refl _ _ | (with_reducible refine Kp.rng ?_ (by assumption) ?_) | (with_reducible refine Kp.below ?_ (by assumption)) | (with_reducible refine Kp.grown ?_ (by assumption) ?_) | (with_reducible refine Kp.alloc ?_ _) | (with_reducible refine Kp.drew ?_) | (with_reducible refine Kp.drewN ?_ _) | (with_reducible refine Kp.setCell ?_ _ ?_))) <;> (first | omega | (simp; done) | (simp; omega))))).mono ?_
    rintro e w7 ⟨vo, rfl, vo0, vo1, _, hd7, ob7, or7⟩
    have vo1 := vo1 (by omega)
    have z7 := ob7.size
    (try simp at z7)
    have y7_0 : w.heap.size < w7.heap.size := (by omega)
    have y7_1 : w4.heap.size < w7.heap.size := (by omega)
    have k7_0 : w7.cell? ⟨w.heap.size, 0, none⟩ = some (.int .i64 0) := or7.keeps (by omega) (by first | (go_simp; done) | assumption)
    have k7_1 : w7.cell? ⟨w.heap.size, 1, none⟩ = some (.int .i64 0) := or7.keeps (by omega) (by first | (go_simp; done) | assumption)
    have k7_2 : w7.cell? ⟨w.heap.size, 2, none⟩ = some (.int .i64 0) := or7.keeps (by omega) (by first | (go_simp; done) | assumption)
    have k7_3 : w7.cell? ⟨w.heap.size, 3, none⟩ = some (.int .i64 0) := or7.keeps (by omega) (by first | (go_simp; done) | assumption)
    have k7_4 : w7.cell? ⟨w.heap.size, 4, none⟩ = some (.int .i64 0) := or7.keeps (by omega) (by first | (go_simp; done) | assumption)
    have k7_5 : w7.cell? ⟨w.heap.size, 5, none⟩ = some (.int .i64 0) := or7.keeps (by omega) (by first | (go_simp; done) | assumption)
    have k7_6 : w7.cell? ⟨w4.heap.size, 0, none⟩ = some (.int .i64 0) := or7.keeps (by omega) (by first | (go_simp; done) | assumption)
    have k7_7 : w7.cell? ⟨w4.heap.size, 1, none⟩ = some (.int .i64 vd) := or7.keeps (by omega) (by first | (go_simp; done) | assumption)
    have k7_8 : w7.cell? ⟨w4.heap.size, 2, none⟩ = some (.int .i64 va) := or7.keeps (by omega) (by first | (go_simp; done) | assumption)
    have k7_9 : w7.cell? ⟨w4.heap.size, 3, none⟩ = some (.int .i64 vb) := or7.keeps (by omega) (by first | (go_simp; done) | assumption)
    have k7_10 : w7.cell? ⟨w4.heap.size, 4, none⟩ = some (.int .i64 vc) := or7.keeps (by omega) (by first | (go_simp; done) | assumption)
    have k7_11 : w7.cell? ⟨w4.heap.size, 5, none⟩ = some (.int .i64 0) := or7.keeps (by omega) (by first | (go_simp; done) | assumption)
    have f7_0 : w7.frozen? ⟨w.heap.size, 0, none⟩ = false := or7.free (by omega) (by first | omega | (simp; done) | (simp; omega)) (by first | (go_simp; done) | assumption)
    have f7_1 : w7.frozen? ⟨w.heap.size, 1, none⟩ = false := or7.free (by omega) (by first | omega | (simp; done) | (simp; omega)) (by first | (go_simp; done) | assumption)
    have f7_2 : w7.frozen? ⟨w.heap.size, 2, none⟩ = false := or7.free (by omega) (by first | omega | (simp; done) | (simp; omega)) (by first | (go_simp; done) | assumption)
    have f7_3 : w7.frozen? ⟨w.heap.size, 3, none⟩ = false := or7.free (by omega) (by first | omega | (simp; done) | (simp; omega)) (by first | (go_simp; done) | assumption)
    have f7_4 : w7.frozen? ⟨w.heap.size, 4, none⟩ = false := or7.free (by omega) (by first | omega | (simp; done) | (simp; omega)) (by first | (go_simp; done) | assumption)
    have f7_5 : w7.frozen? ⟨w.heap.size, 5, none⟩ = false := or7.free (by omega) (by first | omega | (simp; done) | (simp; omega)) (by first | (go_simp; done) | assumption)
    have f7_6 : w7.frozen? ⟨w4.heap.size, 0, none⟩ = false := or7.free (by omega) (by first | omega | (simp; done) | (simp; omega)) (by first | (go_simp; done) | assumption)
    have f7_7 : w7.frozen? ⟨w4.heap.size, 1, none⟩ = false := or7.free (by omega) (by first | omega | (simp; done) | (simp; omega)) (by first | (go_simp; done) | assumption)
    have f7_8 : w7.frozen? ⟨w4.heap.size, 2, none⟩ = false := or7.free (by omega) (by first | omega | (simp; done) | (simp; omega)) (by first | (go_simp; done) | assumption)
    have f7_9 : w7.frozen? ⟨w4.heap.size, 3, none⟩ = false := or7.free (by omega) (by first | omega | (simp; done) | (simp; omega)) (by first | (go_simp; done) | assumption)
    have f7_10 : w7.frozen? ⟨w4.heap.size, 4, none⟩ = false := or7.free (by omega) (by first | omega | (simp; done) | (simp; omega)) (by first | (go_simp; done) | assumption)
    have f7_11 : w7.frozen? ⟨w4.heap.size, 5, none⟩ = false := or7.free (by omega) (by first | omega | (simp; done) | (simp; omega)) (by first | (go_simp; done) | assumption)
    clear k6_0 k6_1 k6_2 k6_3 k6_4 k6_5 k6_6 k6_7 k6_8 k6_9 k6_10 k6_11 f6_0 f6_1 f6_2 f6_3 f6_4 f6_5 f6_6 f6_7 f6_8 f6_9 f6_10 f6_11
    obtain ⟨o3, ho3⟩ : ∃ o, o = 3 + vo := ⟨_, rfl⟩
    have ho4 : 3 ≤ o3 ∧ o3 ≤ 9 := by omega
    have hin : inB (3 + vo) 3 9 = true := inB_iff.2 (by omega)
    have hp : plainS ⟨3 + vo, vd, va, vb, vc, 0⟩ = ⟨3 + vo, vd, va, vb, 0, 0⟩ := by simp only [plainS]; rw [if_neg (by omega), if_neg (by omega), if_pos hin]
    have hok : plain1 ⟨3 + vo, vd, va, vb, 0, 0⟩ := by refine ⟨?_, by simp; omega, by simp; omega⟩; simp only [stOk]; rw [if_neg (by omega), if_neg (by omega), if_pos hin]; simp [inB]; omega
    go_wp2_with fail
    refine (l08Plain_any ⟨3 + vo, vd, va, vb, vc, 0⟩ _).mono ?_
    rw [hp]
    rintro e w8 ⟨rfl, hb8⟩
    have z8 := hb8.size
    (try simp at z8)
    have y8_0 : w.heap.size < w8.heap.size := (by omega)
    have y8_1 : w4.heap.size < w8.heap.size := (by omega)
    have k8_0 := bel_keeps hb8 (b := w.heap.size) (o := 0) (v := .int .i64 0) (by first | (go_simp; done) | assumption)
    have k8_1 := bel_keeps hb8 (b := w.heap.size) (o := 1) (v := .int .i64 0) (by first | (go_simp; done) | assumption)
    have k8_2 := bel_keeps hb8 (b := w.heap.size) (o := 2) (v := .int .i64 0) (by first | (go_simp; done) | assumption)
    have k8_3 := bel_keeps hb8 (b := w.heap.size) (o := 3) (v := .int .i64 0) (by first | (go_simp; done) | assumption)
    have k8_4 := bel_keeps hb8 (b := w.heap.size) (o := 4) (v := .int .i64 0) (by first | (go_simp; done) | assumption)
    have k8_5 := bel_keeps hb8 (b := w.heap.size) (o := 5) (v := .int .i64 0) (by first | (go_simp; done) | assumption)
    have k8_6 := bel_keeps hb8 (b := w4.heap.size) (o := 0) (v := .int .i64 (3 + vo)) (by first | (go_simp; done) | assumption)
    have k8_7 := bel_keeps hb8 (b := w4.heap.size) (o := 1) (v := .int .i64 vd) (by first | (go_simp; done) | assumption)
    have k8_8 := bel_keeps hb8 (b := w4.heap.size) (o := 2) (v := .int .i64 va) (by first | (go_simp; done) | assumption)
    have k8_9 := bel_keeps hb8 (b := w4.heap.size) (o := 3) (v := .int .i64 vb) (by first | (go_simp; done) | assumption)
    have k8_10 := bel_keeps hb8 (b := w4.heap.size) (o := 4) (v := .int .i64 vc) (by first | (go_simp; done) | assumption)
    have k8_11 := bel_keeps hb8 (b := w4.heap.size) (o := 5) (v := .int .i64 0) (by first | (go_simp; done) | assumption)
    have f8_0 := bel_free hb8 (b := w.heap.size) (o := 0) (by first | omega | (simp; done) | (simp; omega)) (by first | (go_simp; done) | assumption)
    have f8_1 := bel_free hb8 (b := w.heap.size) (o := 1) (by first | omega | (simp; done) | (simp; omega)) (by first | (go_simp; done) | assumption)
    have f8_2 := bel_free hb8 (b := w.heap.size) (o := 2) (by first | omega | (simp; done) | (simp; omega)) (by first | (go_simp; done) | assumption)
    have f8_3 := bel_free hb8 (b := w.heap.size) (o := 3) (by first | omega | (simp; done) | (simp; omega)) (by first | (go_simp; done) | assumption)
    have f8_4 := bel_free hb8 (b := w.heap.size) (o := 4) (by first | omega | (simp; done) | (simp; omega)) (by first | (go_simp; done) | assumption)
    have f8_5 := bel_free hb8 (b := w.heap.size) (o := 5) (by first | omega | (simp; done) | (simp; omega)) (by first | (go_simp; done) | assumption)
    have f8_6 := bel_free hb8 (b := w4.heap.size) (o := 0) (by first | omega | (simp; done) | (simp; omega)) (by first | (go_simp; done) | assumption)
    have f8_7 := bel_free hb8 (b := w4.heap.size) (o := 1) (by first | omega | (simp; done) | (simp; omega)) (by first | (go_simp; done) | assumption)
    have f8_8 := bel_free hb8 (b := w4.heap.size) (o := 2) (by first | omega | (simp; done) | (simp; omega)) (by first | (go_simp; done) | assumption)
    have f8_9 := bel_free hb8 (b := w4.heap.size) (o := 3) (by first | omega | (simp; done) | (simp; omega)) (by first | (go_simp; done) | assumption)
    have f8_10 := bel_free hb8 (b := w4.heap.size) (o := 4) (by first | omega | (simp; done) | (simp; omega)) (by first | (go_simp; done) | assumption)
    have f8_11 := bel_free hb8 (b := w4.heap.size) (o := 5) (by first | omega | (simp; done) | (simp; omega)) (by first | (go_simp; done) | assumption)
    clear k7_0 k7_1 k7_2 k7_3 k7_4 k7_5 k7_6 k7_7 k7_8 k7_9 k7_10 k7_11 f7_0 f7_1 f7_2 f7_3 f7_4 f7_5 f7_6 f7_7 f7_8 f7_9 f7_10 f7_11
    unfold stV
    go_wp2_with fail
    refine bodyPost_ret (v := .agg #[.int .i64 (3 + vo), .int .i64 (vd), .int .i64 (va), .int .i64 (vb), .int .i64 (0), .int .i64 (0)]) (by simp [results, Tryd.results67, go_sem, k8_0, k8_1, k8_2, k8_3, k8_4, k8_5, f8_0, f8_1, f8_2, f8_3, f8_4, f8_5]) rfl ⟨⟨3 + vo, vd, va, vb, 0, 0⟩, rfl, hok, hd7.keep fun q hq => (by (repeat (first | with_reducible exact Kp.refl _ _ | (with_reducible refine Kp.rng ?_ (by assumption) ?_) | (with_reducible refine Kp.below ?_ (by assumption)) | (with_reducible refine Kp.grown ?_ (by assumption) ?_) | (with_reducible refine Kp.alloc ?_ _) | (with_reducible refine Kp.drew ?_) | (with_reducible refine Kp.drewN ?_ _) | (with_reducible refine Kp.setCell ?_ _ ?_))) <;> (first | omega | (simp; done) | (simp; omega))), ⟨(by (repeat (first | with_reducible exact Below.refl _ _ | (with_reducible refine bel_next ?_ ?_ (by assumption)) | (with_reducible refine Below.alloc ?_ ?_ _) | (with_reducible refine Below.drew ?_) | (with_reducible refine below_drewN ?_ _) | (with_reducible refine Below.setCell ?_ ?_ _))) <;> (first | omega | (simp; done) | (simp; omega))), fun q hq => Kp.of_lt fun hql => (by (repeat (first | with_reducible exact Kp.refl _ _ | (with_reducible refine Kp.rng ?_ (by assumption) ?_) | (with_reducible refine Kp.below ?_ (by assumption)) | (with_reducible refine Kp.grown ?_ (by assumption) ?_) | (with_reducible refine Kp.alloc ?_ _) | (with_reducible refine Kp.drew ?_) | (with_reducible refine Kp.drewN ?_ _) | (with_reducible refine Kp.setCell ?_ _ ?_))) <;> (first | omega | (simp; done) | (simp; omega)))⟩⟩
end Go.Proofs.YtigefmobejclaaaDoor

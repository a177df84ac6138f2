/- DrStmt, DrProg, DrRun, ProgFacts, UnrFacts, FlowFacts, RunFacts, StepFacts, NonFacts, LawFlows, LawLoopRuns, LawNon, in one text. -/
import Derived.Test.YtfeffofoofmgcaaDraw
import Derived.Test.YtfeffofoofmgcaaSStmt
import Derived.Test.YtfeffofoofmgcaaReads
import Derived.Test.YtfeffofoofmgcaaUnroll
import Derived.Test.YtfeffofoofmgcaaGrid
import Derived.Test.YtfeffofoofmgcaaPlaces
import Derived.Test.YtfeffofoofmgcaaParties
import Derived.Test.YtfeffofoofmgcaaOutc
import Derived.Test.YtfeffofoofmgcaaFlowOk
import Derived.Test.YtfeffofoofmgcaaRun
/- DrStmt -/
namespace Go.Proofs.Ytfeffofoofmgcaa
open Go.RowKit
set_option linter.unusedVariables false
set_option linter.unusedSimpArgs false

theorem Kp.of_lt {b : Nat} {w w' : World} (h : b < w.heap.size → Kp b w w') : Kp b w w' := fun hb => h hb hb
set_option maxHeartbeats 1000000 in
theorem once_dr (g : Nat) (xs : List Int) (ad : Option Addr) (c : Nat) (n : Int) (w : World) (hd : Dr w g xs ad c) :
    Calls Try.prog 119 #[.pointer (some ⟨g, 0, none⟩), .int .i64 n] w fun e w' => ∃ b : Bool, e = .returned (.bool b) ∧ Dr w' g xs ad c ∧ Only g w w' := by
  go_enter Try.func119, Try.ntmps119
  go_wp2_with fail
  refine (below_dr g xs ad c n _ hd).mono ?_
  rintro e w1 ⟨v, rfl, _, _, _, hd1, ho1⟩
  go_wp2_with fail
  go_ret
  exact ⟨_, rfl, hd1, ho1⟩
def plain1 (s : St) : Prop := stOk s = true ∧ s.op ≠ 12 ∧ s.op ≠ 13

set_option maxRecDepth 20000 in
set_option maxHeartbeats 8000000 in
theorem l08Stmt_dr (g : Nat) (xs : List Int) (ad : Option Addr) (c : Nat) (w : World) (hd : Dr w g xs ad c) :
    Calls Try.prog 120 #[.pointer (some ⟨g, 0, none⟩)] w fun e w' => ∃ s, e = .returned (stV s) ∧ plain1 s ∧ Dr w' g xs ad c ∧ Only g w w' := by
  have hgt := hd.gt
  go_enter Try.func120, Try.ntmps120
  go_wp2_with fail
  refine (below_dr g xs ad c 4 _ (hd.keep fun q hq => (by (repeat (first | with_reducible exact Kp.refl _ _ | (with_reducible refine Kp.rng ?_ (by assumption) ?_) | (with_reducible refine Kp.below ?_ (by assumption)) | (with_reducible refine Kp.grown ?_ (by assumption) ?_) | (with_reducible refine Kp.alloc ?_ _) | (with_reducible refine Kp.drew ?_) | (with_reducible refine Kp.drewN ?_ _) | (with_reducible refine Kp.setCell ?_ _ ?_))) <;> (first | omega | (simp; done) | (simp; omega))))).mono ?_
  rintro e w1 ⟨vd, rfl, vd0, vd1, _, hd1, ob1, or1⟩
  have vd1 := vd1 (by omega)
  have z1 := ob1.size
  (try simp at z1)
  have y1_0 : w.heap.size < w1.heap.size := (by omega)
  have k1_0 : w1.cell? ⟨w.heap.size, 0, none⟩ = some (.int .i64 0) := or1.keeps (by omega) (by first | (go_simp; done) | assumption)
  have k1_1 : w1.cell? ⟨w.heap.size, 1, none⟩ = some (.int .i64 0) := or1.keeps (by omega) (by first | (go_simp; done) | assumption)
  have k1_2 : w1.cell? ⟨w.heap.size, 2, none⟩ = some (.int .i64 0) := or1.keeps (by omega) (by first | (go_simp; done) | assumption)
  have k1_3 : w1.cell? ⟨w.heap.size, 3, none⟩ = some (.int .i64 0) := or1.keeps (by omega) (by first | (go_simp; done) | assumption)
  have k1_4 : w1.cell? ⟨w.heap.size, 4, none⟩ = some (.int .i64 0) := or1.keeps (by omega) (by first | (go_simp; done) | assumption)
  have k1_5 : w1.cell? ⟨w.heap.size, 5, none⟩ = some (.int .i64 0) := or1.keeps (by omega) (by first | (go_simp; done) | assumption)
  have f1_0 : w1.frozen? ⟨w.heap.size, 0, none⟩ = false := or1.free (by omega) (by first | omega | (simp; done) | (simp; omega)) (by first | (go_simp; done) | assumption)
  have f1_1 : w1.frozen? ⟨w.heap.size, 1, none⟩ = false := or1.free (by omega) (by first | omega | (simp; done) | (simp; omega)) (by first | (go_simp; done) | assumption)
  have f1_2 : w1.frozen? ⟨w.heap.size, 2, none⟩ = false := or1.free (by omega) (by first | omega | (simp; done) | (simp; omega)) (by first | (go_simp; done) | assumption)
  have f1_3 : w1.frozen? ⟨w.heap.size, 3, none⟩ = false := or1.free (by omega) (by first | omega | (simp; done) | (simp; omega)) (by first | (go_simp; done) | assumption)
  have f1_4 : w1.frozen? ⟨w.heap.size, 4, none⟩ = false := or1.free (by omega) (by first | omega | (simp; done) | (simp; omega)) (by first | (go_simp; done) | assumption)
  have f1_5 : w1.frozen? ⟨w.heap.size, 5, none⟩ = false := or1.free (by omega) (by first | omega | (simp; done) | (simp; omega)) (by first | (go_simp; done) | assumption)
  go_wp2_with fail
  refine (below_dr g xs ad c 4 _ (hd1.keep fun q hq => (by (repeat (first | with_reducible exact Kp.refl _ _ | (with_reducible refine Kp.rng ?_ (by assumption) ?_) | (with_reducible refine Kp.below ?_ (by assumption)) | (with_reducible refine Kp.grown ?_ (by assumption) ?_) | (with_reducible refine Kp.alloc ?_ _) | (with_reducible refine Kp.drew ?_) | (with_reducible refine Kp.drewN ?_ _) | (with_reducible refine Kp.setCell ?_ _ ?_))) <;> (first | omega | (simp; done) | (simp; omega))))).mono ?_
  rintro e w2 ⟨va, rfl, va0, va1, _, hd2, ob2, or2⟩
  have va1 := va1 (by omega)
  have z2 := ob2.size
  (try simp at z2)
  have y2_0 : w.heap.size < w2.heap.size := (by omega)
  have k2_0 : w2.cell? ⟨w.heap.size, 0, none⟩ = some (.int .i64 0) := or2.keeps (by omega) (by first | (go_simp; done) | assumption)
  have k2_1 : w2.cell? ⟨w.heap.size, 1, none⟩ = some (.int .i64 0) := or2.keeps (by omega) (by first | (go_simp; done) | assumption)
  have k2_2 : w2.cell? ⟨w.heap.size, 2, none⟩ = some (.int .i64 0) := or2.keeps (by omega) (by first | (go_simp; done) | assumption)
  have k2_3 : w2.cell? ⟨w.heap.size, 3, none⟩ = some (.int .i64 0) := or2.keeps (by omega) (by first | (go_simp; done) | assumption)
  have k2_4 : w2.cell? ⟨w.heap.size, 4, none⟩ = some (.int .i64 0) := or2.keeps (by omega) (by first | (go_simp; done) | assumption)
  have k2_5 : w2.cell? ⟨w.heap.size, 5, none⟩ = some (.int .i64 0) := or2.keeps (by omega) (by first | (go_simp; done) | assumption)
  have f2_0 : w2.frozen? ⟨w.heap.size, 0, none⟩ = false := or2.free (by omega) (by first | omega | (simp; done) | (simp; omega)) (by first | (go_simp; done) | assumption)
  have f2_1 : w2.frozen? ⟨w.heap.size, 1, none⟩ = false := or2.free (by omega) (by first | omega | (simp; done) | (simp; omega)) (by first | (go_simp; done) | assumption)
  have f2_2 : w2.frozen? ⟨w.heap.size, 2, none⟩ = false := or2.free (by omega) (by first | omega | (simp; done) | (simp; omega)) (by first | (go_simp; done) | assumption)
  have f2_3 : w2.frozen? ⟨w.heap.size, 3, none⟩ = false := or2.free (by omega) (by first | omega | (simp; done) | (simp; omega)) (by first | (go_simp; done) | assumption)
  have f2_4 : w2.frozen? ⟨w.heap.size, 4, none⟩ = false := or2.free (by omega) (by first | omega | (simp; done) | (simp; omega)) (by first | (go_simp; done) | assumption)
  have f2_5 : w2.frozen? ⟨w.heap.size, 5, none⟩ = false := or2.free (by omega) (by first | omega | (simp; done) | (simp; omega)) (by first | (go_simp; done) | assumption)
  clear k1_0 k1_1 k1_2 k1_3 k1_4 k1_5 f1_0 f1_1 f1_2 f1_3 f1_4 f1_5
  go_wp2_with fail
  refine (below_dr g xs ad c 4 _ (hd2.keep fun q hq => (by (repeat (first | with_reducible exact Kp.refl _ _ | (with_reducible refine Kp.rng ?_ (by assumption) ?_) | (with_reducible refine Kp.below ?_ (by assumption)) | (with_reducible refine Kp.grown ?_ (by assumption) ?_) | (with_reducible refine Kp.alloc ?_ _) | (with_reducible refine Kp.drew ?_) | (with_reducible refine Kp.drewN ?_ _) | (with_reducible refine Kp.setCell ?_ _ ?_))) <;> (first | omega | (simp; done) | (simp; omega))))).mono ?_
  rintro e w3 ⟨vb, rfl, vb0, vb1, _, hd3, ob3, or3⟩
  have vb1 := vb1 (by omega)
  have z3 := ob3.size
  (try simp at z3)
  have y3_0 : w.heap.size < w3.heap.size := (by omega)
  have k3_0 : w3.cell? ⟨w.heap.size, 0, none⟩ = some (.int .i64 0) := or3.keeps (by omega) (by first | (go_simp; done) | assumption)
  have k3_1 : w3.cell? ⟨w.heap.size, 1, none⟩ = some (.int .i64 0) := or3.keeps (by omega) (by first | (go_simp; done) | assumption)
  have k3_2 : w3.cell? ⟨w.heap.size, 2, none⟩ = some (.int .i64 0) := or3.keeps (by omega) (by first | (go_simp; done) | assumption)
  have k3_3 : w3.cell? ⟨w.heap.size, 3, none⟩ = some (.int .i64 0) := or3.keeps (by omega) (by first | (go_simp; done) | assumption)
  have k3_4 : w3.cell? ⟨w.heap.size, 4, none⟩ = some (.int .i64 0) := or3.keeps (by omega) (by first | (go_simp; done) | assumption)
  have k3_5 : w3.cell? ⟨w.heap.size, 5, none⟩ = some (.int .i64 0) := or3.keeps (by omega) (by first | (go_simp; done) | assumption)
  have f3_0 : w3.frozen? ⟨w.heap.size, 0, none⟩ = false := or3.free (by omega) (by first | omega | (simp; done) | (simp; omega)) (by first | (go_simp; done) | assumption)
  have f3_1 : w3.frozen? ⟨w.heap.size, 1, none⟩ = false := or3.free (by omega) (by first | omega | (simp; done) | (simp; omega)) (by first | (go_simp; done) | assumption)
  have f3_2 : w3.frozen? ⟨w.heap.size, 2, none⟩ = false := or3.free (by omega) (by first | omega | (simp; done) | (simp; omega)) (by first | (go_simp; done) | assumption)
  have f3_3 : w3.frozen? ⟨w.heap.size, 3, none⟩ = false := or3.free (by omega) (by first | omega | (simp; done) | (simp; omega)) (by first | (go_simp; done) | assumption)
  have f3_4 : w3.frozen? ⟨w.heap.size, 4, none⟩ = false := or3.free (by omega) (by first | omega | (simp; done) | (simp; omega)) (by first | (go_simp; done) | assumption)
  have f3_5 : w3.frozen? ⟨w.heap.size, 5, none⟩ = false := or3.free (by omega) (by first | omega | (simp; done) | (simp; omega)) (by first | (go_simp; done) | assumption)
  clear k2_0 k2_1 k2_2 k2_3 k2_4 k2_5 f2_0 f2_1 f2_2 f2_3 f2_4 f2_5
  go_wp2_with fail
  refine (below_dr g xs ad c 4 _ (hd3.keep fun q hq => (by (repeat (first | with_reducible exact Kp.refl _ _ | (with_reducible refine Kp.rng ?_ (by assumption) ?_) | (with_reducible refine Kp.below ?_ (by assumption)) | (with_reducible refine Kp.grown ?_ (by assumption) ?_) | (with_reducible refine Kp.alloc ?_ _) | (with_reducible refine Kp.drew ?_) | (with_reducible refine Kp.drewN ?_ _) | (with_reducible refine Kp.setCell ?_ _ ?_))) <;> (first | omega | (simp; done) | (simp; omega))))).mono ?_
  rintro e w4 ⟨vc, rfl, vc0, vc1, _, hd4, ob4, or4⟩
  have vc1 := vc1 (by omega)
  have z4 := ob4.size
  (try simp at z4)
  have y4_0 : w.heap.size < w4.heap.size := (by omega)
  have k4_0 : w4.cell? ⟨w.heap.size, 0, none⟩ = some (.int .i64 0) := or4.keeps (by omega) (by first | (go_simp; done) | assumption)
  have k4_1 : w4.cell? ⟨w.heap.size, 1, none⟩ = some (.int .i64 0) := or4.keeps (by omega) (by first | (go_simp; done) | assumption)
  have k4_2 : w4.cell? ⟨w.heap.size, 2, none⟩ = some (.int .i64 0) := or4.keeps (by omega) (by first | (go_simp; done) | assumption)
  have k4_3 : w4.cell? ⟨w.heap.size, 3, none⟩ = some (.int .i64 0) := or4.keeps (by omega) (by first | (go_simp; done) | assumption)
  have k4_4 : w4.cell? ⟨w.heap.size, 4, none⟩ = some (.int .i64 0) := or4.keeps (by omega) (by first | (go_simp; done) | assumption)
  have k4_5 : w4.cell? ⟨w.heap.size, 5, none⟩ = some (.int .i64 0) := or4.keeps (by omega) (by first | (go_simp; done) | assumption)
  have f4_0 : w4.frozen? ⟨w.heap.size, 0, none⟩ = false := or4.free (by omega) (by first | omega | (simp; done) | (simp; omega)) (by first | (go_simp; done) | assumption)
  have f4_1 : w4.frozen? ⟨w.heap.size, 1, none⟩ = false := or4.free (by omega) (by first | omega | (simp; done) | (simp; omega)) (by first | (go_simp; done) | assumption)
  have f4_2 : w4.frozen? ⟨w.heap.size, 2, none⟩ = false := or4.free (by omega) (by first | omega | (simp; done) | (simp; omega)) (by first | (go_simp; done) | assumption)
  have f4_3 : w4.frozen? ⟨w.heap.size, 3, none⟩ = false := or4.free (by omega) (by first | omega | (simp; done) | (simp; omega)) (by first | (go_simp; done) | assumption)
  have f4_4 : w4.frozen? ⟨w.heap.size, 4, none⟩ = false := or4.free (by omega) (by first | omega | (simp; done) | (simp; omega)) (by first | (go_simp; done) | assumption)
  have f4_5 : w4.frozen? ⟨w.heap.size, 5, none⟩ = false := or4.free (by omega) (by first | omega | (simp; done) | (simp; omega)) (by first | (go_simp; done) | assumption)
  clear k3_0 k3_1 k3_2 k3_3 k3_4 k3_5 f3_0 f3_1 f3_2 f3_3 f3_4 f3_5
  go_wp2_with fail
  obtain ⟨w5, hw5⟩ : ∃ W, W = w4.alloc (.cells #[.int .i64 0, .int .i64 vd, .int .i64 va, .int .i64 vb, .int .i64 vc, .int .i64 0] 38) := ⟨_, rfl⟩
  rw [← hw5]
  have hb5 : Below w4.heap.size w4 w5 := by rw [hw5]; exact (Below.refl _ _).alloc (Nat.le_refl _) _
  have x5 : w4.heap.size < w5.heap.size := by rw [hw5]; simp
  have z5 := hb5.size
  (try simp at z5)
  have y5_0 : w.heap.size < w5.heap.size := (by omega)
  have k5_0 := bel_keeps hb5 (b := w.heap.size) (o := 0) (v := .int .i64 0) (by first | (go_simp; done) | assumption)
  have k5_1 := bel_keeps hb5 (b := w.heap.size) (o := 1) (v := .int .i64 0) (by first | (go_simp; done) | assumption)
  have k5_2 := bel_keeps hb5 (b := w.heap.size) (o := 2) (v := .int .i64 0) (by first | (go_simp; done) | assumption)
  have k5_3 := bel_keeps hb5 (b := w.heap.size) (o := 3) (v := .int .i64 0) (by first | (go_simp; done) | assumption)
  have k5_4 := bel_keeps hb5 (b := w.heap.size) (o := 4) (v := .int .i64 0) (by first | (go_simp; done) | assumption)
  have k5_5 := bel_keeps hb5 (b := w.heap.size) (o := 5) (v := .int .i64 0) (by first | (go_simp; done) | assumption)
  have f5_0 := bel_free hb5 (b := w.heap.size) (o := 0) (by first | omega | (simp; done) | (simp; omega)) (by first | (go_simp; done) | assumption)
  have f5_1 := bel_free hb5 (b := w.heap.size) (o := 1) (by first | omega | (simp; done) | (simp; omega)) (by first | (go_simp; done) | assumption)
  have f5_2 := bel_free hb5 (b := w.heap.size) (o := 2) (by first | omega | (simp; done) | (simp; omega)) (by first | (go_simp; done) | assumption)
  have f5_3 := bel_free hb5 (b := w.heap.size) (o := 3) (by first | omega | (simp; done) | (simp; omega)) (by first | (go_simp; done) | assumption)
  have f5_4 := bel_free hb5 (b := w.heap.size) (o := 4) (by first | omega | (simp; done) | (simp; omega)) (by first | (go_simp; done) | assumption)
  have f5_5 := bel_free hb5 (b := w.heap.size) (o := 5) (by first | omega | (simp; done) | (simp; omega)) (by first | (go_simp; done) | assumption)
  clear k4_0 k4_1 k4_2 k4_3 k4_4 k4_5 f4_0 f4_1 f4_2 f4_3 f4_4 f4_5
  have kb5_0 : w5.cell? ⟨w4.heap.size, 0, none⟩ = some (.int .i64 0) := by rw [hw5]; go_simp
  have kf5_0 : w5.frozen? ⟨w4.heap.size, 0, none⟩ = false := by rw [hw5]; go_simp
  have kb5_1 : w5.cell? ⟨w4.heap.size, 1, none⟩ = some (.int .i64 vd) := by rw [hw5]; go_simp
  have kf5_1 : w5.frozen? ⟨w4.heap.size, 1, none⟩ = false := by rw [hw5]; go_simp
  have kb5_2 : w5.cell? ⟨w4.heap.size, 2, none⟩ = some (.int .i64 va) := by rw [hw5]; go_simp
  have kf5_2 : w5.frozen? ⟨w4.heap.size, 2, none⟩ = false := by rw [hw5]; go_simp
  have kb5_3 : w5.cell? ⟨w4.heap.size, 3, none⟩ = some (.int .i64 vb) := by rw [hw5]; go_simp
  have kf5_3 : w5.frozen? ⟨w4.heap.size, 3, none⟩ = false := by rw [hw5]; go_simp
  have kb5_4 : w5.cell? ⟨w4.heap.size, 4, none⟩ = some (.int .i64 vc) := by rw [hw5]; go_simp
  have kf5_4 : w5.frozen? ⟨w4.heap.size, 4, none⟩ = false := by rw [hw5]; go_simp
  have kb5_5 : w5.cell? ⟨w4.heap.size, 5, none⟩ = some (.int .i64 0) := by rw [hw5]; go_simp
  have kf5_5 : w5.frozen? ⟨w4.heap.size, 5, none⟩ = false := by rw [hw5]; go_simp
  clear hw5
  go_wp2_with fail
  refine (below_dr g xs ad c 12 _ (hd4.keep fun q hq => (by (repeat (first | with_reducible exact Kp.refl _ _ | (with_reducible refine Kp.rng ?_ (by assumption) ?_) | (with_reducible refine Kp.below ?_ (by assumption)) | (with_reducible refine Kp.grown ?_ (by assumption) ?_) | (with_reducible refine Kp.alloc ?_ _) | (with_reducible refine Kp.drew ?_) | (with_reducible refine Kp.drewN ?_ _) | (with_reducible refine Kp.setCell ?_ _ ?_))) <;> (first | omega | (simp; done) | (simp; omega))))).mono ?_
  rintro e w6 ⟨x, rfl, x0, x1, _, hd6, ob6, or6⟩
  have x1 := x1 (by omega)
  have z6 := ob6.size
  (try simp at z6)
  have y6_0 : w.heap.size < w6.heap.size := (by omega)
  have y6_1 : w4.heap.size < w6.heap.size := (by omega)
  have k6_0 : w6.cell? ⟨w.heap.size, 0, none⟩ = some (.int .i64 0) := or6.keeps (by omega) (by first | (go_simp; done) | assumption)
  have k6_1 : w6.cell? ⟨w.heap.size, 1, none⟩ = some (.int .i64 0) := or6.keeps (by omega) (by first | (go_simp; done) | assumption)
  have k6_2 : w6.cell? ⟨w.heap.size, 2, none⟩ = some (.int .i64 0) := or6.keeps (by omega) (by first | (go_simp; done) | assumption)
  have k6_3 : w6.cell? ⟨w.heap.size, 3, none⟩ = some (.int .i64 0) := or6.keeps (by omega) (by first | (go_simp; done) | assumption)
  have k6_4 : w6.cell? ⟨w.heap.size, 4, none⟩ = some (.int .i64 0) := or6.keeps (by omega) (by first | (go_simp; done) | assumption)
  have k6_5 : w6.cell? ⟨w.heap.size, 5, none⟩ = some (.int .i64 0) := or6.keeps (by omega) (by first | (go_simp; done) | assumption)
  have k6_6 : w6.cell? ⟨w4.heap.size, 0, none⟩ = some (.int .i64 0) := or6.keeps (by omega) (by first | (go_simp; done) | assumption)
  have k6_7 : w6.cell? ⟨w4.heap.size, 1, none⟩ = some (.int .i64 vd) := or6.keeps (by omega) (by first | (go_simp; done) | assumption)
  have k6_8 : w6.cell? ⟨w4.heap.size, 2, none⟩ = some (.int .i64 va) := or6.keeps (by omega) (by first | (go_simp; done) | assumption)
  have k6_9 : w6.cell? ⟨w4.heap.size, 3, none⟩ = some (.int .i64 vb) := or6.keeps (by omega) (by first | (go_simp; done) | assumption)
  have k6_10 : w6.cell? ⟨w4.heap.size, 4, none⟩ = some (.int .i64 vc) := or6.keeps (by omega) (by first | (go_simp; done) | assumption)
  have k6_11 : w6.cell? ⟨w4.heap.size, 5, none⟩ = some (.int .i64 0) := or6.keeps (by omega) (by first | (go_simp; done) | assumption)
  have f6_0 : w6.frozen? ⟨w.heap.size, 0, none⟩ = false := or6.free (by omega) (by first | omega | (simp; done) | (simp; omega)) (by first | (go_simp; done) | assumption)
  have f6_1 : w6.frozen? ⟨w.heap.size, 1, none⟩ = false := or6.free (by omega) (by first | omega | (simp; done) | (simp; omega)) (by first | (go_simp; done) | assumption)
  have f6_2 : w6.frozen? ⟨w.heap.size, 2, none⟩ = false := or6.free (by omega) (by first | omega | (simp; done) | (simp; omega)) (by first | (go_simp; done) | assumption)
  have f6_3 : w6.frozen? ⟨w.heap.size, 3, none⟩ = false := or6.free (by omega) (by first | omega | (simp; done) | (simp; omega)) (by first | (go_simp; done) | assumption)
  have f6_4 : w6.frozen? ⟨w.heap.size, 4, none⟩ = false := or6.free (by omega) (by first | omega | (simp; done) | (simp; omega)) (by first | (go_simp; done) | assumption)
  have f6_5 : w6.frozen? ⟨w.heap.size, 5, none⟩ = false := or6.free (by omega) (by first | omega | (simp; done) | (simp; omega)) (by first | (go_simp; done) | assumption)
  have f6_6 : w6.frozen? ⟨w4.heap.size, 0, none⟩ = false := or6.free (by omega) (by first | omega | (simp; done) | (simp; omega)) (by first | (go_simp; done) | assumption)
  have f6_7 : w6.frozen? ⟨w4.heap.size, 1, none⟩ = false := or6.free (by omega) (by first | omega | (simp; done) | (simp; omega)) (by first | (go_simp; done) | assumption)
  have f6_8 : w6.frozen? ⟨w4.heap.size, 2, none⟩ = false := or6.free (by omega) (by first | omega | (simp; done) | (simp; omega)) (by first | (go_simp; done) | assumption)
  have f6_9 : w6.frozen? ⟨w4.heap.size, 3, none⟩ = false := or6.free (by omega) (by first | omega | (simp; done) | (simp; omega)) (by first | (go_simp; done) | assumption)
  have f6_10 : w6.frozen? ⟨w4.heap.size, 4, none⟩ = false := or6.free (by omega) (by first | omega | (simp; done) | (simp; omega)) (by first | (go_simp; done) | assumption)
  have f6_11 : w6.frozen? ⟨w4.heap.size, 5, none⟩ = false := or6.free (by omega) (by first | omega | (simp; done) | (simp; omega)) (by first | (go_simp; done) | assumption)
  clear k5_0 k5_1 k5_2 k5_3 k5_4 k5_5 kb5_0 kb5_1 kb5_2 kb5_3 kb5_4 kb5_5 f5_0 f5_1 f5_2 f5_3 f5_4 f5_5 kf5_0 kf5_1 kf5_2 kf5_3 kf5_4 kf5_5
  have hx : x = 0 ∨ x = 1 ∨ x = 2 ∨ x = 3 ∨ x = 4 ∨ x = 5 ∨ x = 6 ∨ 7 ≤ x := by omega
  rcases hx with rfl | rfl | rfl | rfl | rfl | rfl | rfl | hx
  ·
    go_wp2_with fail
    refine (below_dr g xs ad c 16 _ (hd6.keep fun q hq => (by (repeat (first | with_reducible exact Kp.refl _ _ | (with_reducible refine Kp.rng ?_ (by assumption) ?_) | (with_reducible refine Kp.below ?_ (by assumption)) | (with_reducible refine Kp.grown ?_ (by assumption) ?_) | (with_reducible refine Kp.alloc ?_ _) | (with_reducible refine Kp.drew ?_) | (with_reducible refine Kp.drewN ?_ _) | (with_reducible refine Kp.setCell ?_ _ ?_))) <;> (first | omega | (simp; done) | (simp; omega))))).mono ?_
    rintro e w7 ⟨vn, rfl, vn0, vn1, _, hd7, ob7, or7⟩
    have vn1 := vn1 (by omega)
    have z7 := ob7.size
    (try simp at z7)
    have y7_0 : w.heap.size < w7.heap.size := (by omega)
    have y7_1 : w4.heap.size < w7.heap.size := (by omega)
    have k7_0 : w7.cell? ⟨w.heap.size, 0, none⟩ = some (.int .i64 0) := or7.keeps (by omega) (by first | (go_simp; done) | assumption)
    have k7_1 : w7.cell? ⟨w.heap.size, 1, none⟩ = some (.int .i64 0) := or7.keeps (by omega) (by first | (go_simp; done) | assumption)
    have k7_2 : w7.cell? ⟨w.heap.size, 2, none⟩ = some (.int .i64 0) := or7.keeps (by omega) (by first | (go_simp; done) | assumption)
    have k7_3 : w7.cell? ⟨w.heap.size, 3, none⟩ = some (.int .i64 0) := or7.keeps (by omega) (by first | (go_simp; done) | assumption)
    have k7_4 : w7.cell? ⟨w.heap.size, 4, none⟩ = some (.int .i64 0) := or7.keeps (by omega) (by first | (go_simp; done) | assumption)
    have k7_5 : w7.cell? ⟨w.heap.size, 5, none⟩ = some (.int .i64 0) := or7.keeps (by omega) (by first | (go_simp; done) | assumption)
    have k7_6 : w7.cell? ⟨w4.heap.size, 0, none⟩ = some (.int .i64 1) := or7.keeps (by omega) (by first | (go_simp; done) | assumption)
    have k7_7 : w7.cell? ⟨w4.heap.size, 1, none⟩ = some (.int .i64 vd) := or7.keeps (by omega) (by first | (go_simp; done) | assumption)
    have k7_8 : w7.cell? ⟨w4.heap.size, 2, none⟩ = some (.int .i64 va) := or7.keeps (by omega) (by first | (go_simp; done) | assumption)
    have k7_9 : w7.cell? ⟨w4.heap.size, 3, none⟩ = some (.int .i64 vb) := or7.keeps (by omega) (by first | (go_simp; done) | assumption)
    have k7_10 : w7.cell? ⟨w4.heap.size, 4, none⟩ = some (.int .i64 vc) := or7.keeps (by omega) (by first | (go_simp; done) | assumption)
    have k7_11 : w7.cell? ⟨w4.heap.size, 5, none⟩ = some (.int .i64 0) := or7.keeps (by omega) (by first | (go_simp; done) | assumption)
    have f7_0 : w7.frozen? ⟨w.heap.size, 0, none⟩ = false := or7.free (by omega) (by first | omega | (simp; done) | (simp; omega)) (by first | (go_simp; done) | assumption)
    have f7_1 : w7.frozen? ⟨w.heap.size, 1, none⟩ = false := or7.free (by omega) (by first | omega | (simp; done) | (simp; omega)) (by first | (go_simp; done) | assumption)
    have f7_2 : w7.frozen? ⟨w.heap.size, 2, none⟩ = false := or7.free (by omega) (by first | omega | (simp; done) | (simp; omega)) (by first | (go_simp; done) | assumption)
    have f7_3 : w7.frozen? ⟨w.heap.size, 3, none⟩ = false := or7.free (by omega) (by first | omega | (simp; done) | (simp; omega)) (by first | (go_simp; done) | assumption)
    have f7_4 : w7.frozen? ⟨w.heap.size, 4, none⟩ = false := or7.free (by omega) (by first | omega | (simp; done) | (simp; omega)) (by first | (go_simp; done) | assumption)
    have f7_5 : w7.frozen? ⟨w.heap.size, 5, none⟩ = false := or7.free (by omega) (by first | omega | (simp; done) | (simp; omega)) (by first | (go_simp; done) | assumption)
    have f7_6 : w7.frozen? ⟨w4.heap.size, 0, none⟩ = false := or7.free (by omega) (by first | omega | (simp; done) | (simp; omega)) (by first | (go_simp; done) | assumption)
    have f7_7 : w7.frozen? ⟨w4.heap.size, 1, none⟩ = false := or7.free (by omega) (by first | omega | (simp; done) | (simp; omega)) (by first | (go_simp; done) | assumption)
    have f7_8 : w7.frozen? ⟨w4.heap.size, 2, none⟩ = false := or7.free (by omega) (by first | omega | (simp; done) | (simp; omega)) (by first | (go_simp; done) | assumption)
    have f7_9 : w7.frozen? ⟨w4.heap.size, 3, none⟩ = false := or7.free (by omega) (by first | omega | (simp; done) | (simp; omega)) (by first | (go_simp; done) | assumption)
    have f7_10 : w7.frozen? ⟨w4.heap.size, 4, none⟩ = false := or7.free (by omega) (by first | omega | (simp; done) | (simp; omega)) (by first | (go_simp; done) | assumption)
    have f7_11 : w7.frozen? ⟨w4.heap.size, 5, none⟩ = false := or7.free (by omega) (by first | omega | (simp; done) | (simp; omega)) (by first | (go_simp; done) | assumption)
    clear k6_0 k6_1 k6_2 k6_3 k6_4 k6_5 k6_6 k6_7 k6_8 k6_9 k6_10 k6_11 f6_0 f6_1 f6_2 f6_3 f6_4 f6_5 f6_6 f6_7 f6_8 f6_9 f6_10 f6_11
    have hp : plainS ⟨1, vd, va, vb, vc, vn⟩ = ⟨1, vd, 0, 0, 0, vn⟩ := by simp [plainS, inB]
    have hok : plain1 ⟨1, vd, 0, 0, 0, vn⟩ := by refine ⟨?_, by simp, by simp⟩; simp [stOk, inB]; try omega
    go_wp2_with fail
    refine (l08Plain_any ⟨1, vd, va, vb, vc, vn⟩ _).mono ?_
    rw [hp]
    rintro e w8 ⟨rfl, hb8⟩
    have z8 := hb8.size
    (try simp at z8)
    have y8_0 : w.heap.size < w8.heap.size := (by omega)
    have y8_1 : w4.heap.size < w8.heap.size := (by omega)
    have k8_0 := bel_keeps hb8 (b := w.heap.size) (o := 0) (v := .int .i64 0) (by first | (go_simp; done) | assumption)
    have k8_1 := bel_keeps hb8 (b := w.heap.size) (o := 1) (v := .int .i64 0) (by first | (go_simp; done) | assumption)
    have k8_2 := bel_keeps hb8 (b := w.heap.size) (o := 2) (v := .int .i64 0) (by first | (go_simp; done) | assumption)
    have k8_3 := bel_keeps hb8 (b := w.heap.size) (o := 3) (v := .int .i64 0) (by first | (go_simp; done) | assumption)
    have k8_4 := bel_keeps hb8 (b := w.heap.size) (o := 4) (v := .int .i64 0) (by first | (go_simp; done) | assumption)
    have k8_5 := bel_keeps hb8 (b := w.heap.size) (o := 5) (v := .int .i64 0) (by first | (go_simp; done) | assumption)
    have k8_6 := bel_keeps hb8 (b := w4.heap.size) (o := 0) (v := .int .i64 1) (by first | (go_simp; done) | assumption)
    have k8_7 := bel_keeps hb8 (b := w4.heap.size) (o := 1) (v := .int .i64 vd) (by first | (go_simp; done) | assumption)
    have k8_8 := bel_keeps hb8 (b := w4.heap.size) (o := 2) (v := .int .i64 va) (by first | (go_simp; done) | assumption)
    have k8_9 := bel_keeps hb8 (b := w4.heap.size) (o := 3) (v := .int .i64 vb) (by first | (go_simp; done) | assumption)
    have k8_10 := bel_keeps hb8 (b := w4.heap.size) (o := 4) (v := .int .i64 vc) (by first | (go_simp; done) | assumption)
    have k8_11 := bel_keeps hb8 (b := w4.heap.size) (o := 5) (v := .int .i64 vn) (by first | (go_simp; done) | assumption)
    have f8_0 := bel_free hb8 (b := w.heap.size) (o := 0) (by first | omega | (simp; done) | (simp; omega)) (by first | (go_simp; done) | assumption)
    have f8_1 := bel_free hb8 (b := w.heap.size) (o := 1) (by first | omega | (simp; done) | (simp; omega)) (by first | (go_simp; done) | assumption)
    have f8_2 := bel_free hb8 (b := w.heap.size) (o := 2) (by first | omega | (simp; done) | (simp; omega)) (by first | (go_simp; done) | assumption)
    have f8_3 := bel_free hb8 (b := w.heap.size) (o := 3) (by first | omega | (simp; done) | (simp; omega)) (by first | (go_simp; done) | assumption)
    have f8_4 := bel_free hb8 (b := w.heap.size) (o := 4) (by first | omega | (simp; done) | (simp; omega)) (by first | (go_simp; done) | assumption)
    have f8_5 := bel_free hb8 (b := w.heap.size) (o := 5) (by first | omega | (simp; done) | (simp; omega)) (by first | (go_simp; done) | assumption)
    have f8_6 := bel_free hb8 (b := w4.heap.size) (o := 0) (by first | omega | (simp; done) | (simp; omega)) (by first | (go_simp; done) | assumption)
    have f8_7 := bel_free hb8 (b := w4.heap.size) (o := 1) (by first | omega | (simp; done) | (simp; omega)) (by first | (go_simp; done) | assumption)
    have f8_8 := bel_free hb8 (b := w4.heap.size) (o := 2) (by first | omega | (simp; done) | (simp; omega)) (by first | (go_simp; done) | assumption)
    have f8_9 := bel_free hb8 (b := w4.heap.size) (o := 3) (by first | omega | (simp; done) | (simp; omega)) (by first | (go_simp; done) | assumption)
    have f8_10 := bel_free hb8 (b := w4.heap.size) (o := 4) (by first | omega | (simp; done) | (simp; omega)) (by first | (go_simp; done) | assumption)
    have f8_11 := bel_free hb8 (b := w4.heap.size) (o := 5) (by first | omega | (simp; done) | (simp; omega)) (by first | (go_simp; done) | assumption)
    clear k7_0 k7_1 k7_2 k7_3 k7_4 k7_5 k7_6 k7_7 k7_8 k7_9 k7_10 k7_11 f7_0 f7_1 f7_2 f7_3 f7_4 f7_5 f7_6 f7_7 f7_8 f7_9 f7_10 f7_11
    unfold stV
    go_wp2_with fail
    refine bodyPost_ret (v := .agg #[.int .i64 (1), .int .i64 (vd), .int .i64 (0), .int .i64 (0), .int .i64 (0), .int .i64 (vn)]) (by simp [results, Try.results120, go_sem, k8_0, k8_1, k8_2, k8_3, k8_4, k8_5, f8_0, f8_1, f8_2, f8_3, f8_4, f8_5]) rfl ⟨⟨1, vd, 0, 0, 0, vn⟩, rfl, hok, hd7.keep fun q hq => (by (repeat (first | with_reducible exact Kp.refl _ _ | (with_reducible refine Kp.rng ?_ (by assumption) ?_) | (with_reducible refine Kp.below ?_ (by assumption)) | (with_reducible refine Kp.grown ?_ (by assumption) ?_) | (with_reducible refine Kp.alloc ?_ _) | (with_reducible refine Kp.drew ?_) | (with_reducible refine Kp.drewN ?_ _) | (with_reducible refine Kp.setCell ?_ _ ?_))) <;> (first | omega | (simp; done) | (simp; omega))), ⟨(by (repeat (first | with_reducible exact Below.refl _ _ | (with_reducible refine bel_next ?_ ?_ (by assumption)) | (with_reducible refine Below.alloc ?_ ?_ _) | (with_reducible refine Below.drew ?_) | (with_reducible refine below_drewN ?_ _) | (with_reducible refine Below.setCell ?_ ?_ _))) <;> (first | omega | (simp; done) | (simp; omega))), fun q hq => Kp.of_lt fun hql => (by (repeat (first | with_reducible exact Kp.refl _ _ | (with_reducible refine Kp.rng ?_ (by assumption) ?_) | (with_reducible refine Kp.below ?_ (by assumption)) | (with_reducible refine Kp.grown ?_ (by assumption) ?_) | (with_reducible refine Kp.alloc ?_ _) | (with_reducible refine Kp.drew ?_) | (with_reducible refine Kp.drewN ?_ _) | (with_reducible refine Kp.setCell ?_ _ ?_))) <;> (first | omega | (simp; done) | (simp; omega)))⟩⟩
  ·
    go_wp2_with fail
    refine (below_dr g xs ad c 3 _ (hd6.keep fun q hq => (by (repeat (first | with_reducible exact Kp.refl _ _ | (with_reducible refine Kp.rng ?_ (by assumption) ?_) | (with_reducible refine Kp.below ?_ (by assumption)) | (with_reducible refine Kp.grown ?_ (by assumption) ?_) | (with_reducible refine Kp.alloc ?_ _) | (with_reducible refine Kp.drew ?_) | (with_reducible refine Kp.drewN ?_ _) | (with_reducible refine Kp.setCell ?_ _ ?_))) <;> (first | omega | (simp; done) | (simp; omega))))).mono ?_
    rintro e w7 ⟨va2, rfl, va20, va21, _, hd7, ob7, or7⟩
    have va21 := va21 (by omega)
    have z7 := ob7.size
    (try simp at z7)
    have y7_0 : w.heap.size < w7.heap.size := (by omega)
    have y7_1 : w4.heap.size < w7.heap.size := (by omega)
    have k7_0 : w7.cell? ⟨w.heap.size, 0, none⟩ = some (.int .i64 0) := or7.keeps (by omega) (by first | (go_simp; done) | assumption)
    have k7_1 : w7.cell? ⟨w.heap.size, 1, none⟩ = some (.int .i64 0) := or7.keeps (by omega) (by first | (go_simp; done) | assumption)
    have k7_2 : w7.cell? ⟨w.heap.size, 2, none⟩ = some (.int .i64 0) := or7.keeps (by omega) (by first | (go_simp; done) | assumption)
    have k7_3 : w7.cell? ⟨w.heap.size, 3, none⟩ = some (.int .i64 0) := or7.keeps (by omega) (by first | (go_simp; done) | assumption)
    have k7_4 : w7.cell? ⟨w.heap.size, 4, none⟩ = some (.int .i64 0) := or7.keeps (by omega) (by first | (go_simp; done) | assumption)
    have k7_5 : w7.cell? ⟨w.heap.size, 5, none⟩ = some (.int .i64 0) := or7.keeps (by omega) (by first | (go_simp; done) | assumption)
    have k7_6 : w7.cell? ⟨w4.heap.size, 0, none⟩ = some (.int .i64 2) := or7.keeps (by omega) (by first | (go_simp; done) | assumption)
    have k7_7 : w7.cell? ⟨w4.heap.size, 1, none⟩ = some (.int .i64 vd) := or7.keeps (by omega) (by first | (go_simp; done) | assumption)
    have k7_8 : w7.cell? ⟨w4.heap.size, 2, none⟩ = some (.int .i64 va) := or7.keeps (by omega) (by first | (go_simp; done) | assumption)
    have k7_9 : w7.cell? ⟨w4.heap.size, 3, none⟩ = some (.int .i64 vb) := or7.keeps (by omega) (by first | (go_simp; done) | assumption)
    have k7_10 : w7.cell? ⟨w4.heap.size, 4, none⟩ = some (.int .i64 vc) := or7.keeps (by omega) (by first | (go_simp; done) | assumption)
    have k7_11 : w7.cell? ⟨w4.heap.size, 5, none⟩ = some (.int .i64 0) := or7.keeps (by omega) (by first | (go_simp; done) | assumption)
    have f7_0 : w7.frozen? ⟨w.heap.size, 0, none⟩ = false := or7.free (by omega) (by first | omega | (simp; done) | (simp; omega)) (by first | (go_simp; done) | assumption)
    have f7_1 : w7.frozen? ⟨w.heap.size, 1, none⟩ = false := or7.free (by omega) (by first | omega | (simp; done) | (simp; omega)) (by first | (go_simp; done) | assumption)
    have f7_2 : w7.frozen? ⟨w.heap.size, 2, none⟩ = false := or7.free (by omega) (by first | omega | (simp; done) | (simp; omega)) (by first | (go_simp; done) | assumption)
    have f7_3 : w7.frozen? ⟨w.heap.size, 3, none⟩ = false := or7.free (by omega) (by first | omega | (simp; done) | (simp; omega)) (by first | (go_simp; done) | assumption)
    have f7_4 : w7.frozen? ⟨w.heap.size, 4, none⟩ = false := or7.free (by omega) (by first | omega | (simp; done) | (simp; omega)) (by first | (go_simp; done) | assumption)
    have f7_5 : w7.frozen? ⟨w.heap.size, 5, none⟩ = false := or7.free (by omega) (by first | omega | (simp; done) | (simp; omega)) (by first | (go_simp; done) | assumption)
    have f7_6 : w7.frozen? ⟨w4.heap.size, 0, none⟩ = false := or7.free (by omega) (by first | omega | (simp; done) | (simp; omega)) (by first | (go_simp; done) | assumption)
    have f7_7 : w7.frozen? ⟨w4.heap.size, 1, none⟩ = false := or7.free (by omega) (by first | omega | (simp; done) | (simp; omega)) (by first | (go_simp; done) | assumption)
    have f7_8 : w7.frozen? ⟨w4.heap.size, 2, none⟩ = false := or7.free (by omega) (by first | omega | (simp; done) | (simp; omega)) (by first | (go_simp; done) | assumption)
    have f7_9 : w7.frozen? ⟨w4.heap.size, 3, none⟩ = false := or7.free (by omega) (by first | omega | (simp; done) | (simp; omega)) (by first | (go_simp; done) | assumption)
    have f7_10 : w7.frozen? ⟨w4.heap.size, 4, none⟩ = false := or7.free (by omega) (by first | omega | (simp; done) | (simp; omega)) (by first | (go_simp; done) | assumption)
    have f7_11 : w7.frozen? ⟨w4.heap.size, 5, none⟩ = false := or7.free (by omega) (by first | omega | (simp; done) | (simp; omega)) (by first | (go_simp; done) | assumption)
    clear k6_0 k6_1 k6_2 k6_3 k6_4 k6_5 k6_6 k6_7 k6_8 k6_9 k6_10 k6_11 f6_0 f6_1 f6_2 f6_3 f6_4 f6_5 f6_6 f6_7 f6_8 f6_9 f6_10 f6_11
    go_wp2_with fail
    refine (below_dr g xs ad c 2 _ (hd7.keep fun q hq => (by (repeat (first | with_reducible exact Kp.refl _ _ | (with_reducible refine Kp.rng ?_ (by assumption) ?_) | (with_reducible refine Kp.below ?_ (by assumption)) | (with_reducible refine Kp.grown ?_ (by assumption) ?_) | (with_reducible refine Kp.alloc ?_ _) | (with_reducible refine Kp.drew ?_) | (with_reducible refine Kp.drewN ?_ _) | (with_reducible refine Kp.setCell ?_ _ ?_))) <;> (first | omega | (simp; done) | (simp; omega))))).mono ?_
    rintro e w8 ⟨vn, rfl, vn0, vn1, _, hd8, ob8, or8⟩
    have vn1 := vn1 (by omega)
    have z8 := ob8.size
    (try simp at z8)
    have y8_0 : w.heap.size < w8.heap.size := (by omega)
    have y8_1 : w4.heap.size < w8.heap.size := (by omega)
    have k8_0 : w8.cell? ⟨w.heap.size, 0, none⟩ = some (.int .i64 0) := or8.keeps (by omega) (by first | (go_simp; done) | assumption)
    have k8_1 : w8.cell? ⟨w.heap.size, 1, none⟩ = some (.int .i64 0) := or8.keeps (by omega) (by first | (go_simp; done) | assumption)
    have k8_2 : w8.cell? ⟨w.heap.size, 2, none⟩ = some (.int .i64 0) := or8.keeps (by omega) (by first | (go_simp; done) | assumption)
    have k8_3 : w8.cell? ⟨w.heap.size, 3, none⟩ = some (.int .i64 0) := or8.keeps (by omega) (by first | (go_simp; done) | assumption)
    have k8_4 : w8.cell? ⟨w.heap.size, 4, none⟩ = some (.int .i64 0) := or8.keeps (by omega) (by first | (go_simp; done) | assumption)
    have k8_5 : w8.cell? ⟨w.heap.size, 5, none⟩ = some (.int .i64 0) := or8.keeps (by omega) (by first | (go_simp; done) | assumption)
    have k8_6 : w8.cell? ⟨w4.heap.size, 0, none⟩ = some (.int .i64 2) := or8.keeps (by omega) (by first | (go_simp; done) | assumption)
    have k8_7 : w8.cell? ⟨w4.heap.size, 1, none⟩ = some (.int .i64 vd) := or8.keeps (by omega) (by first | (go_simp; done) | assumption)
    have k8_8 : w8.cell? ⟨w4.heap.size, 2, none⟩ = some (.int .i64 va2) := or8.keeps (by omega) (by first | (go_simp; done) | assumption)
    have k8_9 : w8.cell? ⟨w4.heap.size, 3, none⟩ = some (.int .i64 vb) := or8.keeps (by omega) (by first | (go_simp; done) | assumption)
    have k8_10 : w8.cell? ⟨w4.heap.size, 4, none⟩ = some (.int .i64 vc) := or8.keeps (by omega) (by first | (go_simp; done) | assumption)
    have k8_11 : w8.cell? ⟨w4.heap.size, 5, none⟩ = some (.int .i64 0) := or8.keeps (by omega) (by first | (go_simp; done) | assumption)
    have f8_0 : w8.frozen? ⟨w.heap.size, 0, none⟩ = false := or8.free (by omega) (by first | omega | (simp; done) | (simp; omega)) (by first | (go_simp; done) | assumption)
    have f8_1 : w8.frozen? ⟨w.heap.size, 1, none⟩ = false := or8.free (by omega) (by first | omega | (simp; done) | (simp; omega)) (by first | (go_simp; done) | assumption)
    have f8_2 : w8.frozen? ⟨w.heap.size, 2, none⟩ = false := or8.free (by omega) (by first | omega | (simp; done) | (simp; omega)) (by first | (go_simp; done) | assumption)
    have f8_3 : w8.frozen? ⟨w.heap.size, 3, none⟩ = false := or8.free (by omega) (by first | omega | (simp; done) | (simp; omega)) (by first | (go_simp; done) | assumption)
    have f8_4 : w8.frozen? ⟨w.heap.size, 4, none⟩ = false := or8.free (by omega) (by first | omega | (simp; done) | (simp; omega)) (by first | (go_simp; done) | assumption)
    have f8_5 : w8.frozen? ⟨w.heap.size, 5, none⟩ = false := or8.free (by omega) (by first | omega | (simp; done) | (simp; omega)) (by first | (go_simp; done) | assumption)
    have f8_6 : w8.frozen? ⟨w4.heap.size, 0, none⟩ = false := or8.free (by omega) (by first | omega | (simp; done) | (simp; omega)) (by first | (go_simp; done) | assumption)
    have f8_7 : w8.frozen? ⟨w4.heap.size, 1, none⟩ = false := or8.free (by omega) (by first | omega | (simp; done) | (simp; omega)) (by first | (go_simp; done) | assumption)
    have f8_8 : w8.frozen? ⟨w4.heap.size, 2, none⟩ = false := or8.free (by omega) (by first | omega | (simp; done) | (simp; omega)) (by first | (go_simp; done) | assumption)
    have f8_9 : w8.frozen? ⟨w4.heap.size, 3, none⟩ = false := or8.free (by omega) (by first | omega | (simp; done) | (simp; omega)) (by first | (go_simp; done) | assumption)
    have f8_10 : w8.frozen? ⟨w4.heap.size, 4, none⟩ = false := or8.free (by omega) (by first | omega | (simp; done) | (simp; omega)) (by first | (go_simp; done) | assumption)
    have f8_11 : w8.frozen? ⟨w4.heap.size, 5, none⟩ = false := or8.free (by omega) (by first | omega | (simp; done) | (simp; omega)) (by first | (go_simp; done) | assumption)
    clear k7_0 k7_1 k7_2 k7_3 k7_4 k7_5 k7_6 k7_7 k7_8 k7_9 k7_10 k7_11 f7_0 f7_1 f7_2 f7_3 f7_4 f7_5 f7_6 f7_7 f7_8 f7_9 f7_10 f7_11
    have hp : plainS ⟨2, vd, va2, vb, vc, vn⟩ = ⟨2, vd, va2, 0, 0, vn⟩ := by simp [plainS, inB]
    have hok : plain1 ⟨2, vd, va2, 0, 0, vn⟩ := by refine ⟨?_, by simp, by simp⟩; simp [stOk, inB]; try omega
    go_wp2_with fail
    refine (l08Plain_any ⟨2, vd, va2, vb, vc, vn⟩ _).mono ?_
    rw [hp]
    rintro e w9 ⟨rfl, hb9⟩
    have z9 := hb9.size
    (try simp at z9)
    have y9_0 : w.heap.size < w9.heap.size := (by omega)
    have y9_1 : w4.heap.size < w9.heap.size := (by omega)
    have k9_0 := bel_keeps hb9 (b := w.heap.size) (o := 0) (v := .int .i64 0) (by first | (go_simp; done) | assumption)
    have k9_1 := bel_keeps hb9 (b := w.heap.size) (o := 1) (v := .int .i64 0) (by first | (go_simp; done) | assumption)
    have k9_2 := bel_keeps hb9 (b := w.heap.size) (o := 2) (v := .int .i64 0) (by first | (go_simp; done) | assumption)
    have k9_3 := bel_keeps hb9 (b := w.heap.size) (o := 3) (v := .int .i64 0) (by first | (go_simp; done) | assumption)
    have k9_4 := bel_keeps hb9 (b := w.heap.size) (o := 4) (v := .int .i64 0) (by first | (go_simp; done) | assumption)
    have k9_5 := bel_keeps hb9 (b := w.heap.size) (o := 5) (v := .int .i64 0) (by first | (go_simp; done) | assumption)
    have k9_6 := bel_keeps hb9 (b := w4.heap.size) (o := 0) (v := .int .i64 2) (by first | (go_simp; done) | assumption)
    have k9_7 := bel_keeps hb9 (b := w4.heap.size) (o := 1) (v := .int .i64 vd) (by first | (go_simp; done) | assumption)
    have k9_8 := bel_keeps hb9 (b := w4.heap.size) (o := 2) (v := .int .i64 va2) (by first | (go_simp; done) | assumption)
    have k9_9 := bel_keeps hb9 (b := w4.heap.size) (o := 3) (v := .int .i64 vb) (by first | (go_simp; done) | assumption)
    have k9_10 := bel_keeps hb9 (b := w4.heap.size) (o := 4) (v := .int .i64 vc) (by first | (go_simp; done) | assumption)
    have k9_11 := bel_keeps hb9 (b := w4.heap.size) (o := 5) (v := .int .i64 vn) (by first | (go_simp; done) | assumption)
    have f9_0 := bel_free hb9 (b := w.heap.size) (o := 0) (by first | omega | (simp; done) | (simp; omega)) (by first | (go_simp; done) | assumption)
    have f9_1 := bel_free hb9 (b := w.heap.size) (o := 1) (by first | omega | (simp; done) | (simp; omega)) (by first | (go_simp; done) | assumption)
    have f9_2 := bel_free hb9 (b := w.heap.size) (o := 2) (by first | omega | (simp; done) | (simp; omega)) (by first | (go_simp; done) | assumption)
    have f9_3 := bel_free hb9 (b := w.heap.size) (o := 3) (by first | omega | (simp; done) | (simp; omega)) (by first | (go_simp; done) | assumption)
    have f9_4 := bel_free hb9 (b := w.heap.size) (o := 4) (by first | omega | (simp; done) | (simp; omega)) (by first | (go_simp; done) | assumption)
    have f9_5 := bel_free hb9 (b := w.heap.size) (o := 5) (by first | omega | (simp; done) | (simp; omega)) (by first | (go_simp; done) | assumption)
    have f9_6 := bel_free hb9 (b := w4.heap.size) (o := 0) (by first | omega | (simp; done) | (simp; omega)) (by first | (go_simp; done) | assumption)
    have f9_7 := bel_free hb9 (b := w4.heap.size) (o := 1) (by first | omega | (simp; done) | (simp; omega)) (by first | (go_simp; done) | assumption)
    have f9_8 := bel_free hb9 (b := w4.heap.size) (o := 2) (by first | omega | (simp; done) | (simp; omega)) (by first | (go_simp; done) | assumption)
    have f9_9 := bel_free hb9 (b := w4.heap.size) (o := 3) (by first | omega | (simp; done) | (simp; omega)) (by first | (go_simp; done) | assumption)
    have f9_10 := bel_free hb9 (b := w4.heap.size) (o := 4) (by first | omega | (simp; done) | (simp; omega)) (by first | (go_simp; done) | assumption)
    have f9_11 := bel_free hb9 (b := w4.heap.size) (o := 5) (by first | omega | (simp; done) | (simp; omega)) (by first | (go_simp; done) | assumption)
    clear k8_0 k8_1 k8_2 k8_3 k8_4 k8_5 k8_6 k8_7 k8_8 k8_9 k8_10 k8_11 f8_0 f8_1 f8_2 f8_3 f8_4 f8_5 f8_6 f8_7 f8_8 f8_9 f8_10 f8_11
    unfold stV
    go_wp2_with fail
    refine bodyPost_ret (v := .agg #[.int .i64 (2), .int .i64 (vd), .int .i64 (va2), .int .i64 (0), .int .i64 (0), .int .i64 (vn)]) (by simp [results, Try.results120, go_sem, k9_0, k9_1, k9_2, k9_3, k9_4, k9_5, f9_0, f9_1, f9_2, f9_3, f9_4, f9_5]) rfl ⟨⟨2, vd, va2, 0, 0, vn⟩, rfl, hok, hd8.keep fun q hq => (by (repeat (first | with_reducible exact Kp.refl _ _ | (with_reducible refine Kp.rng ?_ (by assumption) ?_) | (with_reducible refine Kp.below ?_ (by assumption)) | (with_reducible refine Kp.grown ?_ (by assumption) ?_) | (with_reducible refine Kp.alloc ?_ _) | (with_reducible refine Kp.drew ?_) | (with_reducible refine Kp.drewN ?_ _) | (with_reducible refine Kp.setCell ?_ _ ?_))) <;> (first | omega | (simp; done) | (simp; omega))), ⟨(by (repeat (first | with_reducible exact Below.refl _ _ | (with_reducible refine bel_next ?_ ?_ (by assumption)) | (with_reducible refine Below.alloc ?_ ?_ _) | (with_reducible refine Below.drew ?_) | (with_reducible refine below_drewN ?_ _) | (with_reducible refine Below.setCell ?_ ?_ _))) <;> (first | omega | (simp; done) | (simp; omega))), fun q hq => Kp.of_lt fun hql => (by (repeat (first | with_reducible exact Kp.refl _ _ | (with_reducible refine Kp.rng ?_ (by assumption) ?_) | (with_reducible refine Kp.below ?_ (by assumption)) | (with_reducible refine Kp.grown ?_ (by assumption) ?_) | (with_reducible refine Kp.alloc ?_ _) | (with_reducible refine Kp.drew ?_) | (with_reducible refine Kp.drewN ?_ _) | (with_reducible refine Kp.setCell ?_ _ ?_))) <;> (first | omega | (simp; done) | (simp; omega)))⟩⟩
  ·
    go_wp2_with fail
    refine (below_dr g xs ad c 3 _ (hd6.keep fun q hq => (by (repeat (first | with_reducible exact Kp.refl _ _ | (with_reducible refine Kp.rng ?_ (by assumption) ?_) | (with_reducible refine Kp.below ?_ (by assumption)) | (with_reducible refine Kp.grown ?_ (by assumption) ?_) | (with_reducible refine Kp.alloc ?_ _) | (with_reducible refine Kp.drew ?_) | (with_reducible refine Kp.drewN ?_ _) | (with_reducible refine Kp.setCell ?_ _ ?_))) <;> (first | omega | (simp; done) | (simp; omega))))).mono ?_
    rintro e w7 ⟨va2, rfl, va20, va21, _, hd7, ob7, or7⟩
    have va21 := va21 (by omega)
    have z7 := ob7.size
    (try simp at z7)
    have y7_0 : w.heap.size < w7.heap.size := (by omega)
    have y7_1 : w4.heap.size < w7.heap.size := (by omega)
    have k7_0 : w7.cell? ⟨w.heap.size, 0, none⟩ = some (.int .i64 0) := or7.keeps (by omega) (by first | (go_simp; done) | assumption)
    have k7_1 : w7.cell? ⟨w.heap.size, 1, none⟩ = some (.int .i64 0) := or7.keeps (by omega) (by first | (go_simp; done) | assumption)
    have k7_2 : w7.cell? ⟨w.heap.size, 2, none⟩ = some (.int .i64 0) := or7.keeps (by omega) (by first | (go_simp; done) | assumption)
    have k7_3 : w7.cell? ⟨w.heap.size, 3, none⟩ = some (.int .i64 0) := or7.keeps (by omega) (by first | (go_simp; done) | assumption)
    have k7_4 : w7.cell? ⟨w.heap.size, 4, none⟩ = some (.int .i64 0) := or7.keeps (by omega) (by first | (go_simp; done) | assumption)
    have k7_5 : w7.cell? ⟨w.heap.size, 5, none⟩ = some (.int .i64 0) := or7.keeps (by omega) (by first | (go_simp; done) | assumption)
    have k7_6 : w7.cell? ⟨w4.heap.size, 0, none⟩ = some (.int .i64 2) := or7.keeps (by omega) (by first | (go_simp; done) | assumption)
    have k7_7 : w7.cell? ⟨w4.heap.size, 1, none⟩ = some (.int .i64 vd) := or7.keeps (by omega) (by first | (go_simp; done) | assumption)
    have k7_8 : w7.cell? ⟨w4.heap.size, 2, none⟩ = some (.int .i64 va) := or7.keeps (by omega) (by first | (go_simp; done) | assumption)
    have k7_9 : w7.cell? ⟨w4.heap.size, 3, none⟩ = some (.int .i64 vb) := or7.keeps (by omega) (by first | (go_simp; done) | assumption)
    have k7_10 : w7.cell? ⟨w4.heap.size, 4, none⟩ = some (.int .i64 vc) := or7.keeps (by omega) (by first | (go_simp; done) | assumption)
    have k7_11 : w7.cell? ⟨w4.heap.size, 5, none⟩ = some (.int .i64 0) := or7.keeps (by omega) (by first | (go_simp; done) | assumption)
    have f7_0 : w7.frozen? ⟨w.heap.size, 0, none⟩ = false := or7.free (by omega) (by first | omega | (simp; done) | (simp; omega)) (by first | (go_simp; done) | assumption)
    have f7_1 : w7.frozen? ⟨w.heap.size, 1, none⟩ = false := or7.free (by omega) (by first | omega | (simp; done) | (simp; omega)) (by first | (go_simp; done) | assumption)
    have f7_2 : w7.frozen? ⟨w.heap.size, 2, none⟩ = false := or7.free (by omega) (by first | omega | (simp; done) | (simp; omega)) (by first | (go_simp; done) | assumption)
    have f7_3 : w7.frozen? ⟨w.heap.size, 3, none⟩ = false := or7.free (by omega) (by first | omega | (simp; done) | (simp; omega)) (by first | (go_simp; done) | assumption)
    have f7_4 : w7.frozen? ⟨w.heap.size, 4, none⟩ = false := or7.free (by omega) (by first | omega | (simp; done) | (simp; omega)) (by first | (go_simp; done) | assumption)
    have f7_5 : w7.frozen? ⟨w.heap.size, 5, none⟩ = false := or7.free (by omega) (by first | omega | (simp; done) | (simp; omega)) (by first | (go_simp; done) | assumption)
    have f7_6 : w7.frozen? ⟨w4.heap.size, 0, none⟩ = false := or7.free (by omega) (by first | omega | (simp; done) | (simp; omega)) (by first | (go_simp; done) | assumption)
    have f7_7 : w7.frozen? ⟨w4.heap.size, 1, none⟩ = false := or7.free (by omega) (by first | omega | (simp; done) | (simp; omega)) (by first | (go_simp; done) | assumption)
    have f7_8 : w7.frozen? ⟨w4.heap.size, 2, none⟩ = false := or7.free (by omega) (by first | omega | (simp; done) | (simp; omega)) (by first | (go_simp; done) | assumption)
    have f7_9 : w7.frozen? ⟨w4.heap.size, 3, none⟩ = false := or7.free (by omega) (by first | omega | (simp; done) | (simp; omega)) (by first | (go_simp; done) | assumption)
    have f7_10 : w7.frozen? ⟨w4.heap.size, 4, none⟩ = false := or7.free (by omega) (by first | omega | (simp; done) | (simp; omega)) (by first | (go_simp; done) | assumption)
    have f7_11 : w7.frozen? ⟨w4.heap.size, 5, none⟩ = false := or7.free (by omega) (by first | omega | (simp; done) | (simp; omega)) (by first | (go_simp; done) | assumption)
    clear k6_0 k6_1 k6_2 k6_3 k6_4 k6_5 k6_6 k6_7 k6_8 k6_9 k6_10 k6_11 f6_0 f6_1 f6_2 f6_3 f6_4 f6_5 f6_6 f6_7 f6_8 f6_9 f6_10 f6_11
    go_wp2_with fail
    refine (below_dr g xs ad c 2 _ (hd7.keep fun q hq => (by (repeat (first | with_reducible exact Kp.refl _ _ | (with_reducible refine Kp.rng ?_ (by assumption) ?_) | (with_reducible refine Kp.below ?_ (by assumption)) | (with_reducible refine Kp.grown ?_ (by assumption) ?_) | (with_reducible refine Kp.alloc ?_ _) | (with_reducible refine Kp.drew ?_) | (with_reducible refine Kp.drewN ?_ _) | (with_reducible refine Kp.setCell ?_ _ ?_))) <;> (first | omega | (simp; done) | (simp; omega))))).mono ?_
    rintro e w8 ⟨vn, rfl, vn0, vn1, _, hd8, ob8, or8⟩
    have vn1 := vn1 (by omega)
    have z8 := ob8.size
    (try simp at z8)
    have y8_0 : w.heap.size < w8.heap.size := (by omega)
    have y8_1 : w4.heap.size < w8.heap.size := (by omega)
    have k8_0 : w8.cell? ⟨w.heap.size, 0, none⟩ = some (.int .i64 0) := or8.keeps (by omega) (by first | (go_simp; done) | assumption)
    have k8_1 : w8.cell? ⟨w.heap.size, 1, none⟩ = some (.int .i64 0) := or8.keeps (by omega) (by first | (go_simp; done) | assumption)
    have k8_2 : w8.cell? ⟨w.heap.size, 2, none⟩ = some (.int .i64 0) := or8.keeps (by omega) (by first | (go_simp; done) | assumption)
    have k8_3 : w8.cell? ⟨w.heap.size, 3, none⟩ = some (.int .i64 0) := or8.keeps (by omega) (by first | (go_simp; done) | assumption)
    have k8_4 : w8.cell? ⟨w.heap.size, 4, none⟩ = some (.int .i64 0) := or8.keeps (by omega) (by first | (go_simp; done) | assumption)
    have k8_5 : w8.cell? ⟨w.heap.size, 5, none⟩ = some (.int .i64 0) := or8.keeps (by omega) (by first | (go_simp; done) | assumption)
    have k8_6 : w8.cell? ⟨w4.heap.size, 0, none⟩ = some (.int .i64 2) := or8.keeps (by omega) (by first | (go_simp; done) | assumption)
    have k8_7 : w8.cell? ⟨w4.heap.size, 1, none⟩ = some (.int .i64 vd) := or8.keeps (by omega) (by first | (go_simp; done) | assumption)
    have k8_8 : w8.cell? ⟨w4.heap.size, 2, none⟩ = some (.int .i64 va2) := or8.keeps (by omega) (by first | (go_simp; done) | assumption)
    have k8_9 : w8.cell? ⟨w4.heap.size, 3, none⟩ = some (.int .i64 vb) := or8.keeps (by omega) (by first | (go_simp; done) | assumption)
    have k8_10 : w8.cell? ⟨w4.heap.size, 4, none⟩ = some (.int .i64 vc) := or8.keeps (by omega) (by first | (go_simp; done) | assumption)
    have k8_11 : w8.cell? ⟨w4.heap.size, 5, none⟩ = some (.int .i64 0) := or8.keeps (by omega) (by first | (go_simp; done) | assumption)
    have f8_0 : w8.frozen? ⟨w.heap.size, 0, none⟩ = false := or8.free (by omega) (by first | omega | (simp; done) | (simp; omega)) (by first | (go_simp; done) | assumption)
    have f8_1 : w8.frozen? ⟨w.heap.size, 1, none⟩ = false := or8.free (by omega) (by first | omega | (simp; done) | (simp; omega)) (by first | (go_simp; done) | assumption)
    have f8_2 : w8.frozen? ⟨w.heap.size, 2, none⟩ = false := or8.free (by omega) (by first | omega | (simp; done) | (simp; omega)) (by first | (go_simp; done) | assumption)
    have f8_3 : w8.frozen? ⟨w.heap.size, 3, none⟩ = false := or8.free (by omega) (by first | omega | (simp; done) | (simp; omega)) (by first | (go_simp; done) | assumption)
    have f8_4 : w8.frozen? ⟨w.heap.size, 4, none⟩ = false := or8.free (by omega) (by first | omega | (simp; done) | (simp; omega)) (by first | (go_simp; done) | assumption)
    have f8_5 : w8.frozen? ⟨w.heap.size, 5, none⟩ = false := or8.free (by omega) (by first | omega | (simp; done) | (simp; omega)) (by first | (go_simp; done) | assumption)
    have f8_6 : w8.frozen? ⟨w4.heap.size, 0, none⟩ = false := or8.free (by omega) (by first | omega | (simp; done) | (simp; omega)) (by first | (go_simp; done) | assumption)
    have f8_7 : w8.frozen? ⟨w4.heap.size, 1, none⟩ = false := or8.free (by omega) (by first | omega | (simp; done) | (simp; omega)) (by first | (go_simp; done) | assumption)
    have f8_8 : w8.frozen? ⟨w4.heap.size, 2, none⟩ = false := or8.free (by omega) (by first | omega | (simp; done) | (simp; omega)) (by first | (go_simp; done) | assumption)
    have f8_9 : w8.frozen? ⟨w4.heap.size, 3, none⟩ = false := or8.free (by omega) (by first | omega | (simp; done) | (simp; omega)) (by first | (go_simp; done) | assumption)
    have f8_10 : w8.frozen? ⟨w4.heap.size, 4, none⟩ = false := or8.free (by omega) (by first | omega | (simp; done) | (simp; omega)) (by first | (go_simp; done) | assumption)
    have f8_11 : w8.frozen? ⟨w4.heap.size, 5, none⟩ = false := or8.free (by omega) (by first | omega | (simp; done) | (simp; omega)) (by first | (go_simp; done) | assumption)
    clear k7_0 k7_1 k7_2 k7_3 k7_4 k7_5 k7_6 k7_7 k7_8 k7_9 k7_10 k7_11 f7_0 f7_1 f7_2 f7_3 f7_4 f7_5 f7_6 f7_7 f7_8 f7_9 f7_10 f7_11
    have hp : plainS ⟨2, vd, va2, vb, vc, vn⟩ = ⟨2, vd, va2, 0, 0, vn⟩ := by simp [plainS, inB]
    have hok : plain1 ⟨2, vd, va2, 0, 0, vn⟩ := by refine ⟨?_, by simp, by simp⟩; simp [stOk, inB]; try omega
    go_wp2_with fail
    refine (l08Plain_any ⟨2, vd, va2, vb, vc, vn⟩ _).mono ?_
    rw [hp]
    rintro e w9 ⟨rfl, hb9⟩
    have z9 := hb9.size
    (try simp at z9)
    have y9_0 : w.heap.size < w9.heap.size := (by omega)
    have y9_1 : w4.heap.size < w9.heap.size := (by omega)
    have k9_0 := bel_keeps hb9 (b := w.heap.size) (o := 0) (v := .int .i64 0) (by first | (go_simp; done) | assumption)
    have k9_1 := bel_keeps hb9 (b := w.heap.size) (o := 1) (v := .int .i64 0) (by first | (go_simp; done) | assumption)
    have k9_2 := bel_keeps hb9 (b := w.heap.size) (o := 2) (v := .int .i64 0) (by first | (go_simp; done) | assumption)
    have k9_3 := bel_keeps hb9 (b := w.heap.size) (o := 3) (v := .int .i64 0) (by first | (go_simp; done) | assumption)
    have k9_4 := bel_keeps hb9 (b := w.heap.size) (o := 4) (v := .int .i64 0) (by first | (go_simp; done) | assumption)
    have k9_5 := bel_keeps hb9 (b := w.heap.size) (o := 5) (v := .int .i64 0) (by first | (go_simp; done) | assumption)
    have k9_6 := bel_keeps hb9 (b := w4.heap.size) (o := 0) (v := .int .i64 2) (by first | (go_simp; done) | assumption)
    have k9_7 := bel_keeps hb9 (b := w4.heap.size) (o := 1) (v := .int .i64 vd) (by first | (go_simp; done) | assumption)
    have k9_8 := bel_keeps hb9 (b := w4.heap.size) (o := 2) (v := .int .i64 va2) (by first | (go_simp; done) | assumption)
    have k9_9 := bel_keeps hb9 (b := w4.heap.size) (o := 3) (v := .int .i64 vb) (by first | (go_simp; done) | assumption)
    have k9_10 := bel_keeps hb9 (b := w4.heap.size) (o := 4) (v := .int .i64 vc) (by first | (go_simp; done) | assumption)
    have k9_11 := bel_keeps hb9 (b := w4.heap.size) (o := 5) (v := .int .i64 vn) (by first | (go_simp; done) | assumption)
    have f9_0 := bel_free hb9 (b := w.heap.size) (o := 0) (by first | omega | (simp; done) | (simp; omega)) (by first | (go_simp; done) | assumption)
    have f9_1 := bel_free hb9 (b := w.heap.size) (o := 1) (by first | omega | (simp; done) | (simp; omega)) (by first | (go_simp; done) | assumption)
    have f9_2 := bel_free hb9 (b := w.heap.size) (o := 2) (by first | omega | (simp; done) | (simp; omega)) (by first | (go_simp; done) | assumption)
    have f9_3 := bel_free hb9 (b := w.heap.size) (o := 3) (by first | omega | (simp; done) | (simp; omega)) (by first | (go_simp; done) | assumption)
    have f9_4 := bel_free hb9 (b := w.heap.size) (o := 4) (by first | omega | (simp; done) | (simp; omega)) (by first | (go_simp; done) | assumption)
    have f9_5 := bel_free hb9 (b := w.heap.size) (o := 5) (by first | omega | (simp; done) | (simp; omega)) (by first | (go_simp; done) | assumption)
    have f9_6 := bel_free hb9 (b := w4.heap.size) (o := 0) (by first | omega | (simp; done) | (simp; omega)) (by first | (go_simp; done) | assumption)
    have f9_7 := bel_free hb9 (b := w4.heap.size) (o := 1) (by first | omega | (simp; done) | (simp; omega)) (by first | (go_simp; done) | assumption)
    have f9_8 := bel_free hb9 (b := w4.heap.size) (o := 2) (by first | omega | (simp; done) | (simp; omega)) (by first | (go_simp; done) | assumption)
    have f9_9 := bel_free hb9 (b := w4.heap.size) (o := 3) (by first | omega | (simp; done) | (simp; omega)) (by first | (go_simp; done) | assumption)
    have f9_10 := bel_free hb9 (b := w4.heap.size) (o := 4) (by first | omega | (simp; done) | (simp; omega)) (by first | (go_simp; done) | assumption)
    have f9_11 := bel_free hb9 (b := w4.heap.size) (o := 5) (by first | omega | (simp; done) | (simp; omega)) (by first | (go_simp; done) | assumption)
    clear k8_0 k8_1 k8_2 k8_3 k8_4 k8_5 k8_6 k8_7 k8_8 k8_9 k8_10 k8_11 f8_0 f8_1 f8_2 f8_3 f8_4 f8_5 f8_6 f8_7 f8_8 f8_9 f8_10 f8_11
    unfold stV
    go_wp2_with fail
    refine bodyPost_ret (v := .agg #[.int .i64 (2), .int .i64 (vd), .int .i64 (va2), .int .i64 (0), .int .i64 (0), .int .i64 (vn)]) (by simp [results, Try.results120, go_sem, k9_0, k9_1, k9_2, k9_3, k9_4, k9_5, f9_0, f9_1, f9_2, f9_3, f9_4, f9_5]) rfl ⟨⟨2, vd, va2, 0, 0, vn⟩, rfl, hok, hd8.keep fun q hq => (by (repeat (first | with_reducible exact Kp.refl _ _ | (with_reducible refine Kp.rng ?_ (by assumption) ?_) | (with_reducible refine Kp.below ?_ (by assumption)) | (with_reducible refine Kp.grown ?_ (by assumption) ?_) | (with_reducible refine Kp.alloc ?_ _) | (with_reducible refine Kp.drew ?_) | (with_reducible refine Kp.drewN ?_ _) | (with_reducible refine Kp.setCell ?_ _ ?_))) <;> (first | omega | (simp; done) | (simp; omega))), ⟨(by (repeat (first | with_reducible exact Below.refl _ _ | (with_reducible refine bel_next ?_ ?_ (by assumption)) | (with_reducible refine Below.alloc ?_ ?_ _) | (with_reducible refine Below.drew ?_) | (with_reducible refine below_drewN ?_ _) | (with_reducible refine Below.setCell ?_ ?_ _))) <;> (first | omega | (simp; done) | (simp; omega))), fun q hq => Kp.of_lt fun hql => (by (repeat (first | with_reducible exact Kp.refl _ _ | (with_reducible refine Kp.rng ?_ (by assumption) ?_) | (with_reducible refine Kp.below ?_ (by assumption)) | (with_reducible refine Kp.grown ?_ (by assumption) ?_) | (with_reducible refine Kp.alloc ?_ _) | (with_reducible refine Kp.drew ?_) | (with_reducible refine Kp.drewN ?_ _) | (with_reducible refine Kp.setCell ?_ _ ?_))) <;> (first | omega | (simp; done) | (simp; omega)))⟩⟩
  ·
    go_wp2_with fail
    refine (below_dr g xs ad c 3 _ (hd6.keep fun q hq => (by (repeat (first | with_reducible exact Kp.refl _ _ | (with_reducible refine Kp.rng ?_ (by assumption) ?_) | (with_reducible refine Kp.below ?_ (by assumption)) | (with_reducible refine Kp.grown ?_ (by assumption) ?_) | (with_reducible refine Kp.alloc ?_ _) | (with_reducible refine Kp.drew ?_) | (with_reducible refine Kp.drewN ?_ _) | (with_reducible refine Kp.setCell ?_ _ ?_))) <;> (first | omega | (simp; done) | (simp; omega))))).mono ?_
    rintro e w7 ⟨va2, rfl, va20, va21, _, hd7, ob7, or7⟩
    have va21 := va21 (by omega)
    have z7 := ob7.size
    (try simp at z7)
    have y7_0 : w.heap.size < w7.heap.size := (by omega)
    have y7_1 : w4.heap.size < w7.heap.size := (by omega)
    have k7_0 : w7.cell? ⟨w.heap.size, 0, none⟩ = some (.int .i64 0) := or7.keeps (by omega) (by first | (go_simp; done) | assumption)
    have k7_1 : w7.cell? ⟨w.heap.size, 1, none⟩ = some (.int .i64 0) := or7.keeps (by omega) (by first | (go_simp; done) | assumption)
    have k7_2 : w7.cell? ⟨w.heap.size, 2, none⟩ = some (.int .i64 0) := or7.keeps (by omega) (by first | (go_simp; done) | assumption)
    have k7_3 : w7.cell? ⟨w.heap.size, 3, none⟩ = some (.int .i64 0) := or7.keeps (by omega) (by first | (go_simp; done) | assumption)
    have k7_4 : w7.cell? ⟨w.heap.size, 4, none⟩ = some (.int .i64 0) := or7.keeps (by omega) (by first | (go_simp; done) | assumption)
    have k7_5 : w7.cell? ⟨w.heap.size, 5, none⟩ = some (.int .i64 0) := or7.keeps (by omega) (by first | (go_simp; done) | assumption)
    have k7_6 : w7.cell? ⟨w4.heap.size, 0, none⟩ = some (.int .i64 2) := or7.keeps (by omega) (by first | (go_simp; done) | assumption)
    have k7_7 : w7.cell? ⟨w4.heap.size, 1, none⟩ = some (.int .i64 vd) := or7.keeps (by omega) (by first | (go_simp; done) | assumption)
    have k7_8 : w7.cell? ⟨w4.heap.size, 2, none⟩ = some (.int .i64 va) := or7.keeps (by omega) (by first | (go_simp; done) | assumption)
    have k7_9 : w7.cell? ⟨w4.heap.size, 3, none⟩ = some (.int .i64 vb) := or7.keeps (by omega) (by first | (go_simp; done) | assumption)
    have k7_10 : w7.cell? ⟨w4.heap.size, 4, none⟩ = some (.int .i64 vc) := or7.keeps (by omega) (by first | (go_simp; done) | assumption)
    have k7_11 : w7.cell? ⟨w4.heap.size, 5, none⟩ = some (.int .i64 0) := or7.keeps (by omega) (by first | (go_simp; done) | assumption)
    have f7_0 : w7.frozen? ⟨w.heap.size, 0, none⟩ = false := or7.free (by omega) (by first | omega | (simp; done) | (simp; omega)) (by first | (go_simp; done) | assumption)
    have f7_1 : w7.frozen? ⟨w.heap.size, 1, none⟩ = false := or7.free (by omega) (by first | omega | (simp; done) | (simp; omega)) (by first | (go_simp; done) | assumption)
    have f7_2 : w7.frozen? ⟨w.heap.size, 2, none⟩ = false := or7.free (by omega) (by first | omega | (simp; done) | (simp; omega)) (by first | (go_simp; done) | assumption)
    have f7_3 : w7.frozen? ⟨w.heap.size, 3, none⟩ = false := or7.free (by omega) (by first | omega | (simp; done) | (simp; omega)) (by first | (go_simp; done) | assumption)
    have f7_4 : w7.frozen? ⟨w.heap.size, 4, none⟩ = false := or7.free (by omega) (by first | omega | (simp; done) | (simp; omega)) (by first | (go_simp; done) | assumption)
    have f7_5 : w7.frozen? ⟨w.heap.size, 5, none⟩ = false := or7.free (by omega) (by first | omega | (simp; done) | (simp; omega)) (by first | (go_simp; done) | assumption)
    have f7_6 : w7.frozen? ⟨w4.heap.size, 0, none⟩ = false := or7.free (by omega) (by first | omega | (simp; done) | (simp; omega)) (by first | (go_simp; done) | assumption)
    have f7_7 : w7.frozen? ⟨w4.heap.size, 1, none⟩ = false := or7.free (by omega) (by first | omega | (simp; done) | (simp; omega)) (by first | (go_simp; done) | assumption)
    have f7_8 : w7.frozen? ⟨w4.heap.size, 2, none⟩ = false := or7.free (by omega) (by first | omega | (simp; done) | (simp; omega)) (by first | (go_simp; done) | assumption)
    have f7_9 : w7.frozen? ⟨w4.heap.size, 3, none⟩ = false := or7.free (by omega) (by first | omega | (simp; done) | (simp; omega)) (by first | (go_simp; done) | assumption)
    have f7_10 : w7.frozen? ⟨w4.heap.size, 4, none⟩ = false := or7.free (by omega) (by first | omega | (simp; done) | (simp; omega)) (by first | (go_simp; done) | assumption)
    have f7_11 : w7.frozen? ⟨w4.heap.size, 5, none⟩ = false := or7.free (by omega) (by first | omega | (simp; done) | (simp; omega)) (by first | (go_simp; done) | assumption)
    clear k6_0 k6_1 k6_2 k6_3 k6_4 k6_5 k6_6 k6_7 k6_8 k6_9 k6_10 k6_11 f6_0 f6_1 f6_2 f6_3 f6_4 f6_5 f6_6 f6_7 f6_8 f6_9 f6_10 f6_11
    go_wp2_with fail
    refine (below_dr g xs ad c 2 _ (hd7.keep fun q hq => (by (repeat (first | with_reducible exact Kp.refl _ _ | (with_reducible refine Kp.rng ?_ (by assumption) ?_) | (with_reducible refine Kp.below ?_ (by assumption)) | (with_reducible refine Kp.grown ?_ (by assumption) ?_) | (with_reducible refine Kp.alloc ?_ _) | (with_reducible refine Kp.drew ?_) | (with_reducible refine Kp.drewN ?_ _) | (with_reducible refine Kp.setCell ?_ _ ?_))) <;> (first | omega | (simp; done) | (simp; omega))))).mono ?_
    rintro e w8 ⟨vn, rfl, vn0, vn1, _, hd8, ob8, or8⟩
    have vn1 := vn1 (by omega)
    have z8 := ob8.size
    (try simp at z8)
    have y8_0 : w.heap.size < w8.heap.size := (by omega)
    have y8_1 : w4.heap.size < w8.heap.size := (by omega)
    have k8_0 : w8.cell? ⟨w.heap.size, 0, none⟩ = some (.int .i64 0) := or8.keeps (by omega) (by first | (go_simp; done) | assumption)
    have k8_1 : w8.cell? ⟨w.heap.size, 1, none⟩ = some (.int .i64 0) := or8.keeps (by omega) (by first | (go_simp; done) | assumption)
    have k8_2 : w8.cell? ⟨w.heap.size, 2, none⟩ = some (.int .i64 0) := or8.keeps (by omega) (by first | (go_simp; done) | assumption)
    have k8_3 : w8.cell? ⟨w.heap.size, 3, none⟩ = some (.int .i64 0) := or8.keeps (by omega) (by first | (go_simp; done) | assumption)
    have k8_4 : w8.cell? ⟨w.heap.size, 4, none⟩ = some (.int .i64 0) := or8.keeps (by omega) (by first | (go_simp; done) | assumption)
    have k8_5 : w8.cell? ⟨w.heap.size, 5, none⟩ = some (.int .i64 0) := or8.keeps (by omega) (by first | (go_simp; done) | assumption)
    have k8_6 : w8.cell? ⟨w4.heap.size, 0, none⟩ = some (.int .i64 2) := or8.keeps (by omega) (by first | (go_simp; done) | assumption)
    have k8_7 : w8.cell? ⟨w4.heap.size, 1, none⟩ = some (.int .i64 vd) := or8.keeps (by omega) (by first | (go_simp; done) | assumption)
    have k8_8 : w8.cell? ⟨w4.heap.size, 2, none⟩ = some (.int .i64 va2) := or8.keeps (by omega) (by first | (go_simp; done) | assumption)
    have k8_9 : w8.cell? ⟨w4.heap.size, 3, none⟩ = some (.int .i64 vb) := or8.keeps (by omega) (by first | (go_simp; done) | assumption)
    have k8_10 : w8.cell? ⟨w4.heap.size, 4, none⟩ = some (.int .i64 vc) := or8.keeps (by omega) (by first | (go_simp; done) | assumption)
    have k8_11 : w8.cell? ⟨w4.heap.size, 5, none⟩ = some (.int .i64 0) := or8.keeps (by omega) (by first | (go_simp; done) | assumption)
    have f8_0 : w8.frozen? ⟨w.heap.size, 0, none⟩ = false := or8.free (by omega) (by first | omega | (simp; done) | (simp; omega)) (by first | (go_simp; done) | assumption)
    have f8_1 : w8.frozen? ⟨w.heap.size, 1, none⟩ = false := or8.free (by omega) (by first | omega | (simp; done) | (simp; omega)) (by first | (go_simp; done) | assumption)
    have f8_2 : w8.frozen? ⟨w.heap.size, 2, none⟩ = false := or8.free (by omega) (by first | omega | (simp; done) | (simp; omega)) (by first | (go_simp; done) | assumption)
    have f8_3 : w8.frozen? ⟨w.heap.size, 3, none⟩ = false := or8.free (by omega) (by first | omega | (simp; done) | (simp; omega)) (by first | (go_simp; done) | assumption)
    have f8_4 : w8.frozen? ⟨w.heap.size, 4, none⟩ = false := or8.free (by omega) (by first | omega | (simp; done) | (simp; omega)) (by first | (go_simp; done) | assumption)
    have f8_5 : w8.frozen? ⟨w.heap.size, 5, none⟩ = false := or8.free (by omega) (by first | omega | (simp; done) | (simp; omega)) (by first | (go_simp; done) | assumption)
    have f8_6 : w8.frozen? ⟨w4.heap.size, 0, none⟩ = false := or8.free (by omega) (by first | omega | (simp; done) | (simp; omega)) (by first | (go_simp; done) | assumption)
    have f8_7 : w8.frozen? ⟨w4.heap.size, 1, none⟩ = false := or8.free (by omega) (by first | omega | (simp; done) | (simp; omega)) (by first | (go_simp; done) | assumption)
    have f8_8 : w8.frozen? ⟨w4.heap.size, 2, none⟩ = false := or8.free (by omega) (by first | omega | (simp; done) | (simp; omega)) (by first | (go_simp; done) | assumption)
    have f8_9 : w8.frozen? ⟨w4.heap.size, 3, none⟩ = false := or8.free (by omega) (by first | omega | (simp; done) | (simp; omega)) (by first | (go_simp; done) | assumption)
    have f8_10 : w8.frozen? ⟨w4.heap.size, 4, none⟩ = false := or8.free (by omega) (by first | omega | (simp; done) | (simp; omega)) (by first | (go_simp; done) | assumption)
    have f8_11 : w8.frozen? ⟨w4.heap.size, 5, none⟩ = false := or8.free (by omega) (by first | omega | (simp; done) | (simp; omega)) (by first | (go_simp; done) | assumption)
    clear k7_0 k7_1 k7_2 k7_3 k7_4 k7_5 k7_6 k7_7 k7_8 k7_9 k7_10 k7_11 f7_0 f7_1 f7_2 f7_3 f7_4 f7_5 f7_6 f7_7 f7_8 f7_9 f7_10 f7_11
    have hp : plainS ⟨2, vd, va2, vb, vc, vn⟩ = ⟨2, vd, va2, 0, 0, vn⟩ := by simp [plainS, inB]
    have hok : plain1 ⟨2, vd, va2, 0, 0, vn⟩ := by refine ⟨?_, by simp, by simp⟩; simp [stOk, inB]; try omega
    go_wp2_with fail
    refine (l08Plain_any ⟨2, vd, va2, vb, vc, vn⟩ _).mono ?_
    rw [hp]
    rintro e w9 ⟨rfl, hb9⟩
    have z9 := hb9.size
    (try simp at z9)
    have y9_0 : w.heap.size < w9.heap.size := (by omega)
    have y9_1 : w4.heap.size < w9.heap.size := (by omega)
    have k9_0 := bel_keeps hb9 (b := w.heap.size) (o := 0) (v := .int .i64 0) (by first | (go_simp; done) | assumption)
    have k9_1 := bel_keeps hb9 (b := w.heap.size) (o := 1) (v := .int .i64 0) (by first | (go_simp; done) | assumption)
    have k9_2 := bel_keeps hb9 (b := w.heap.size) (o := 2) (v := .int .i64 0) (by first | (go_simp; done) | assumption)
    have k9_3 := bel_keeps hb9 (b := w.heap.size) (o := 3) (v := .int .i64 0) (by first | (go_simp; done) | assumption)
    have k9_4 := bel_keeps hb9 (b := w.heap.size) (o := 4) (v := .int .i64 0) (by first | (go_simp; done) | assumption)
    have k9_5 := bel_keeps hb9 (b := w.heap.size) (o := 5) (v := .int .i64 0) (by first | (go_simp; done) | assumption)
    have k9_6 := bel_keeps hb9 (b := w4.heap.size) (o := 0) (v := .int .i64 2) (by first | (go_simp; done) | assumption)
    have k9_7 := bel_keeps hb9 (b := w4.heap.size) (o := 1) (v := .int .i64 vd) (by first | (go_simp; done) | assumption)
    have k9_8 := bel_keeps hb9 (b := w4.heap.size) (o := 2) (v := .int .i64 va2) (by first | (go_simp; done) | assumption)
    have k9_9 := bel_keeps hb9 (b := w4.heap.size) (o := 3) (v := .int .i64 vb) (by first | (go_simp; done) | assumption)
    have k9_10 := bel_keeps hb9 (b := w4.heap.size) (o := 4) (v := .int .i64 vc) (by first | (go_simp; done) | assumption)
    have k9_11 := bel_keeps hb9 (b := w4.heap.size) (o := 5) (v := .int .i64 vn) (by first | (go_simp; done) | assumption)
    have f9_0 := bel_free hb9 (b := w.heap.size) (o := 0) (by first | omega | (simp; done) | (simp; omega)) (by first | (go_simp; done) | assumption)
    have f9_1 := bel_free hb9 (b := w.heap.size) (o := 1) (by first | omega | (simp; done) | (simp; omega)) (by first | (go_simp; done) | assumption)
    have f9_2 := bel_free hb9 (b := w.heap.size) (o := 2) (by first | omega | (simp; done) | (simp; omega)) (by first | (go_simp; done) | assumption)
    have f9_3 := bel_free hb9 (b := w.heap.size) (o := 3) (by first | omega | (simp; done) | (simp; omega)) (by first | (go_simp; done) | assumption)
    have f9_4 := bel_free hb9 (b := w.heap.size) (o := 4) (by first | omega | (simp; done) | (simp; omega)) (by first | (go_simp; done) | assumption)
    have f9_5 := bel_free hb9 (b := w.heap.size) (o := 5) (by first | omega | (simp; done) | (simp; omega)) (by first | (go_simp; done) | assumption)
    have f9_6 := bel_free hb9 (b := w4.heap.size) (o := 0) (by first | omega | (simp; done) | (simp; omega)) (by first | (go_simp; done) | assumption)
    have f9_7 := bel_free hb9 (b := w4.heap.size) (o := 1) (by first | omega | (simp; done) | (simp; omega)) (by first | (go_simp; done) | assumption)
    have f9_8 := bel_free hb9 (b := w4.heap.size) (o := 2) (by first | omega | (simp; done) | (simp; omega)) (by first | (go_simp; done) | assumption)
    have f9_9 := bel_free hb9 (b := w4.heap.size) (o := 3) (by first | omega | (simp; done) | (simp; omega)) (by first | (go_simp; done) | assumption)
    have f9_10 := bel_free hb9 (b := w4.heap.size) (o := 4) (by first | omega | (simp; done) | (simp; omega)) (by first | (go_simp; done) | assumption)
    have f9_11 := bel_free hb9 (b := w4.heap.size) (o := 5) (by first | omega | (simp; done) | (simp; omega)) (by first | (go_simp; done) | assumption)
    clear k8_0 k8_1 k8_2 k8_3 k8_4 k8_5 k8_6 k8_7 k8_8 k8_9 k8_10 k8_11 f8_0 f8_1 f8_2 f8_3 f8_4 f8_5 f8_6 f8_7 f8_8 f8_9 f8_10 f8_11
    unfold stV
    go_wp2_with fail
    refine bodyPost_ret (v := .agg #[.int .i64 (2), .int .i64 (vd), .int .i64 (va2), .int .i64 (0), .int .i64 (0), .int .i64 (vn)]) (by simp [results, Try.results120, go_sem, k9_0, k9_1, k9_2, k9_3, k9_4, k9_5, f9_0, f9_1, f9_2, f9_3, f9_4, f9_5]) rfl ⟨⟨2, vd, va2, 0, 0, vn⟩, rfl, hok, hd8.keep fun q hq => (by (repeat (first | with_reducible exact Kp.refl _ _ | (with_reducible refine Kp.rng ?_ (by assumption) ?_) | (with_reducible refine Kp.below ?_ (by assumption)) | (with_reducible refine Kp.grown ?_ (by assumption) ?_) | (with_reducible refine Kp.alloc ?_ _) | (with_reducible refine Kp.drew ?_) | (with_reducible refine Kp.drewN ?_ _) | (with_reducible refine Kp.setCell ?_ _ ?_))) <;> (first | omega | (simp; done) | (simp; omega))), ⟨(by (repeat (first | with_reducible exact Below.refl _ _ | (with_reducible refine bel_next ?_ ?_ (by assumption)) | (with_reducible refine Below.alloc ?_ ?_ _) | (with_reducible refine Below.drew ?_) | (with_reducible refine below_drewN ?_ _) | (with_reducible refine Below.setCell ?_ ?_ _))) <;> (first | omega | (simp; done) | (simp; omega))), fun q hq => Kp.of_lt fun hql => (by (repeat (first | with_reducible exact Kp.refl _ _ | (with_reducible refine Kp.rng ?_ (by assumption) ?_) | (with_reducible refine Kp.below ?_ (by assumption)) | (with_reducible refine Kp.grown ?_ (by assumption) ?_) | (with_reducible refine Kp.alloc ?_ _) | (with_reducible refine Kp.drew ?_) | (with_reducible refine Kp.drewN ?_ _) | (with_reducible refine Kp.setCell ?_ _ ?_))) <;> (first | omega | (simp; done) | (simp; omega)))⟩⟩
  ·
    have hp : plainS ⟨10, vd, va, vb, vc, 0⟩ = ⟨10, vd, va, vb, vc, 0⟩ := by simp [plainS, inB]
    have hok : plain1 ⟨10, vd, va, vb, vc, 0⟩ := by refine ⟨?_, by simp, by simp⟩; simp [stOk, inB]; try omega
    go_wp2_with fail
    refine (l08Plain_any ⟨10, vd, va, vb, vc, 0⟩ _).mono ?_
    rw [hp]
    rintro e w7 ⟨rfl, hb7⟩
    have z7 := hb7.size
    (try simp at z7)
    have y7_0 : w.heap.size < w7.heap.size := (by omega)
    have y7_1 : w4.heap.size < w7.heap.size := (by omega)
    have k7_0 := bel_keeps hb7 (b := w.heap.size) (o := 0) (v := .int .i64 0) (by first | (go_simp; done) | assumption)
    have k7_1 := bel_keeps hb7 (b := w.heap.size) (o := 1) (v := .int .i64 0) (by first | (go_simp; done) | assumption)
    have k7_2 := bel_keeps hb7 (b := w.heap.size) (o := 2) (v := .int .i64 0) (by first | (go_simp; done) | assumption)
    have k7_3 := bel_keeps hb7 (b := w.heap.size) (o := 3) (v := .int .i64 0) (by first | (go_simp; done) | assumption)
    have k7_4 := bel_keeps hb7 (b := w.heap.size) (o := 4) (v := .int .i64 0) (by first | (go_simp; done) | assumption)
    have k7_5 := bel_keeps hb7 (b := w.heap.size) (o := 5) (v := .int .i64 0) (by first | (go_simp; done) | assumption)
    have k7_6 := bel_keeps hb7 (b := w4.heap.size) (o := 0) (v := .int .i64 10) (by first | (go_simp; done) | assumption)
    have k7_7 := bel_keeps hb7 (b := w4.heap.size) (o := 1) (v := .int .i64 vd) (by first | (go_simp; done) | assumption)
    have k7_8 := bel_keeps hb7 (b := w4.heap.size) (o := 2) (v := .int .i64 va) (by first | (go_simp; done) | assumption)
    have k7_9 := bel_keeps hb7 (b := w4.heap.size) (o := 3) (v := .int .i64 vb) (by first | (go_simp; done) | assumption)
    have k7_10 := bel_keeps hb7 (b := w4.heap.size) (o := 4) (v := .int .i64 vc) (by first | (go_simp; done) | assumption)
    have k7_11 := bel_keeps hb7 (b := w4.heap.size) (o := 5) (v := .int .i64 0) (by first | (go_simp; done) | assumption)
    have f7_0 := bel_free hb7 (b := w.heap.size) (o := 0) (by first | omega | (simp; done) | (simp; omega)) (by first | (go_simp; done) | assumption)
    have f7_1 := bel_free hb7 (b := w.heap.size) (o := 1) (by first | omega | (simp; done) | (simp; omega)) (by first | (go_simp; done) | assumption)
    have f7_2 := bel_free hb7 (b := w.heap.size) (o := 2) (by first | omega | (simp; done) | (simp; omega)) (by first | (go_simp; done) | assumption)
    have f7_3 := bel_free hb7 (b := w.heap.size) (o := 3) (by first | omega | (simp; done) | (simp; omega)) (by first | (go_simp; done) | assumption)
    have f7_4 := bel_free hb7 (b := w.heap.size) (o := 4) (by first | omega | (simp; done) | (simp; omega)) (by first | (go_simp; done) | assumption)
    have f7_5 := bel_free hb7 (b := w.heap.size) (o := 5) (by first | omega | (simp; done) | (simp; omega)) (by first | (go_simp; done) | assumption)
    have f7_6 := bel_free hb7 (b := w4.heap.size) (o := 0) (by first | omega | (simp; done) | (simp; omega)) (by first | (go_simp; done) | assumption)
    have f7_7 := bel_free hb7 (b := w4.heap.size) (o := 1) (by first | omega | (simp; done) | (simp; omega)) (by first | (go_simp; done) | assumption)
    have f7_8 := bel_free hb7 (b := w4.heap.size) (o := 2) (by first | omega | (simp; done) | (simp; omega)) (by first | (go_simp; done) | assumption)
    have f7_9 := bel_free hb7 (b := w4.heap.size) (o := 3) (by first | omega | (simp; done) | (simp; omega)) (by first | (go_simp; done) | assumption)
    have f7_10 := bel_free hb7 (b := w4.heap.size) (o := 4) (by first | omega | (simp; done) | (simp; omega)) (by first | (go_simp; done) | assumption)
    have f7_11 := bel_free hb7 (b := w4.heap.size) (o := 5) (by first | omega | (simp; done) | (simp; omega)) (by first | (go_simp; done) | assumption)
    clear k6_0 k6_1 k6_2 k6_3 k6_4 k6_5 k6_6 k6_7 k6_8 k6_9 k6_10 k6_11 f6_0 f6_1 f6_2 f6_3 f6_4 f6_5 f6_6 f6_7 f6_8 f6_9 f6_10 f6_11
    unfold stV
    go_wp2_with fail
    refine bodyPost_ret (v := .agg #[.int .i64 (10), .int .i64 (vd), .int .i64 (va), .int .i64 (vb), .int .i64 (vc), .int .i64 (0)]) (by simp [results, Try.results120, go_sem, k7_0, k7_1, k7_2, k7_3, k7_4, k7_5, f7_0, f7_1, f7_2, f7_3, f7_4, f7_5]) rfl ⟨⟨10, vd, va, vb, vc, 0⟩, rfl, hok, hd6.keep fun q hq => (by (repeat (first | with_reducible exact Kp.refl _ _ | (with_reducible refine Kp.rng ?_ (by assumption) ?_) | (with_reducible refine Kp.below ?_ (by assumption)) | (with_reducible refine Kp.grown ?_ (by assumption) ?_) | (with_reducible refine Kp.alloc ?_ _) | (with_reducible refine Kp.drew ?_) | (with_reducible refine Kp.drewN ?_ _) | (with_reducible refine Kp.setCell ?_ _ ?_))) <;> (first | omega | (simp; done) | (simp; omega))), ⟨(by (repeat (first | with_reducible exact Below.refl _ _ | (with_reducible refine bel_next ?_ ?_ (by assumption)) | (with_reducible refine Below.alloc ?_ ?_ _) | (with_reducible refine Below.drew ?_) | (with_reducible refine below_drewN ?_ _) | (with_reducible refine Below.setCell ?_ ?_ _))) <;> (first | omega | (simp; done) | (simp; omega))), fun q hq => Kp.of_lt fun hql => (by (repeat (first | with_reducible exact Kp.refl _ _ | (with_reducible refine Kp.rng ?_ (by assumption) ?_) | (with_reducible refine Kp.below ?_ (by assumption)) | (with_reducible refine Kp.grown ?_ (by assumption) ?_) | (with_reducible refine Kp.alloc ?_ _) | (with_reducible refine Kp.drew ?_) | (with_reducible refine Kp.drewN ?_ _) | (with_reducible refine Kp.setCell ?_ _ ?_))) <;> (first | omega | (simp; done) | (simp; omega)))⟩⟩
  ·
    have hp : plainS ⟨11, vd, va, vb, vc, 0⟩ = ⟨11, 0, va, 0, 0, 0⟩ := by simp [plainS, inB]
    have hok : plain1 ⟨11, 0, va, 0, 0, 0⟩ := by refine ⟨?_, by simp, by simp⟩; simp [stOk, inB]; try omega
    go_wp2_with fail
    refine (l08Plain_any ⟨11, vd, va, vb, vc, 0⟩ _).mono ?_
    rw [hp]
    rintro e w7 ⟨rfl, hb7⟩
    have z7 := hb7.size
    (try simp at z7)
    have y7_0 : w.heap.size < w7.heap.size := (by omega)
    have y7_1 : w4.heap.size < w7.heap.size := (by omega)
    have k7_0 := bel_keeps hb7 (b := w.heap.size) (o := 0) (v := .int .i64 0) (by first | (go_simp; done) | assumption)
    have k7_1 := bel_keeps hb7 (b := w.heap.size) (o := 1) (v := .int .i64 0) (by first | (go_simp; done) | assumption)
    have k7_2 := bel_keeps hb7 (b := w.heap.size) (o := 2) (v := .int .i64 0) (by first | (go_simp; done) | assumption)
    have k7_3 := bel_keeps hb7 (b := w.heap.size) (o := 3) (v := .int .i64 0) (by first | (go_simp; done) | assumption)
    have k7_4 := bel_keeps hb7 (b := w.heap.size) (o := 4) (v := .int .i64 0) (by first | (go_simp; done) | assumption)
    have k7_5 := bel_keeps hb7 (b := w.heap.size) (o := 5) (v := .int .i64 0) (by first | (go_simp; done) | assumption)
    have k7_6 := bel_keeps hb7 (b := w4.heap.size) (o := 0) (v := .int .i64 11) (by first | (go_simp; done) | assumption)
    have k7_7 := bel_keeps hb7 (b := w4.heap.size) (o := 1) (v := .int .i64 vd) (by first | (go_simp; done) | assumption)
    have k7_8 := bel_keeps hb7 (b := w4.heap.size) (o := 2) (v := .int .i64 va) (by first | (go_simp; done) | assumption)
    have k7_9 := bel_keeps hb7 (b := w4.heap.size) (o := 3) (v := .int .i64 vb) (by first | (go_simp; done) | assumption)
    have k7_10 := bel_keeps hb7 (b := w4.heap.size) (o := 4) (v := .int .i64 vc) (by first | (go_simp; done) | assumption)
    have k7_11 := bel_keeps hb7 (b := w4.heap.size) (o := 5) (v := .int .i64 0) (by first | (go_simp; done) | assumption)
    have f7_0 := bel_free hb7 (b := w.heap.size) (o := 0) (by first | omega | (simp; done) | (simp; omega)) (by first | (go_simp; done) | assumption)
    have f7_1 := bel_free hb7 (b := w.heap.size) (o := 1) (by first | omega | (simp; done) | (simp; omega)) (by first | (go_simp; done) | assumption)
    have f7_2 := bel_free hb7 (b := w.heap.size) (o := 2) (by first | omega | (simp; done) | (simp; omega)) (by first | (go_simp; done) | assumption)
    have f7_3 := bel_free hb7 (b := w.heap.size) (o := 3) (by first | omega | (simp; done) | (simp; omega)) (by first | (go_simp; done) | assumption)
    have f7_4 := bel_free hb7 (b := w.heap.size) (o := 4) (by first | omega | (simp; done) | (simp; omega)) (by first | (go_simp; done) | assumption)
    have f7_5 := bel_free hb7 (b := w.heap.size) (o := 5) (by first | omega | (simp; done) | (simp; omega)) (by first | (go_simp; done) | assumption)
    have f7_6 := bel_free hb7 (b := w4.heap.size) (o := 0) (by first | omega | (simp; done) | (simp; omega)) (by first | (go_simp; done) | assumption)
    have f7_7 := bel_free hb7 (b := w4.heap.size) (o := 1) (by first | omega | (simp; done) | (simp; omega)) (by first | (go_simp; done) | assumption)
    have f7_8 := bel_free hb7 (b := w4.heap.size) (o := 2) (by first | omega | (simp; done) | (simp; omega)) (by first | (go_simp; done) | assumption)
    have f7_9 := bel_free hb7 (b := w4.heap.size) (o := 3) (by first | omega | (simp; done) | (simp; omega)) (by first | (go_simp; done) | assumption)
    have f7_10 := bel_free hb7 (b := w4.heap.size) (o := 4) (by first | omega | (simp; done) | (simp; omega)) (by first | (go_simp; done) | assumption)
    have f7_11 := bel_free hb7 (b := w4.heap.size) (o := 5) (by first | omega | (simp; done) | (simp; omega)) (by first | (go_simp; done) | assumption)
    clear k6_0 k6_1 k6_2 k6_3 k6_4 k6_5 k6_6 k6_7 k6_8 k6_9 k6_10 k6_11 f6_0 f6_1 f6_2 f6_3 f6_4 f6_5 f6_6 f6_7 f6_8 f6_9 f6_10 f6_11
    unfold stV
    go_wp2_with fail
    refine bodyPost_ret (v := .agg #[.int .i64 (11), .int .i64 (0), .int .i64 (va), .int .i64 (0), .int .i64 (0), .int .i64 (0)]) (by simp [results, Try.results120, go_sem, k7_0, k7_1, k7_2, k7_3, k7_4, k7_5, f7_0, f7_1, f7_2, f7_3, f7_4, f7_5]) rfl ⟨⟨11, 0, va, 0, 0, 0⟩, rfl, hok, hd6.keep fun q hq => (by (repeat (first | with_reducible exact Kp.refl _ _ | (with_reducible refine Kp.rng ?_ (by assumption) ?_) | (with_reducible refine Kp.below ?_ (by assumption)) | (with_reducible refine Kp.grown ?_ (by assumption) ?_) | (with_reducible refine Kp.alloc ?_ _) | (with_reducible refine Kp.drew ?_) | (with_reducible refine Kp.drewN ?_ _) | (with_reducible refine Kp.setCell ?_ _ ?_))) <;> (first | omega | (simp; done) | (simp; omega))), ⟨(by (repeat (first | with_reducible exact Below.refl _ _ | (with_reducible refine bel_next ?_ ?_ (by assumption)) | (with_reducible refine Below.alloc ?_ ?_ _) | (with_reducible refine Below.drew ?_) | (with_reducible refine below_drewN ?_ _) | (with_reducible refine Below.setCell ?_ ?_ _))) <;> (first | omega | (simp; done) | (simp; omega))), fun q hq => Kp.of_lt fun hql => (by (repeat (first | with_reducible exact Kp.refl _ _ | (with_reducible refine Kp.rng ?_ (by assumption) ?_) | (with_reducible refine Kp.below ?_ (by assumption)) | (with_reducible refine Kp.grown ?_ (by assumption) ?_) | (with_reducible refine Kp.alloc ?_ _) | (with_reducible refine Kp.drew ?_) | (with_reducible refine Kp.drewN ?_ _) | (with_reducible refine Kp.setCell ?_ _ ?_))) <;> (first | omega | (simp; done) | (simp; omega)))⟩⟩
  ·
    have hp : plainS ⟨11, vd, va, vb, vc, 0⟩ = ⟨11, 0, va, 0, 0, 0⟩ := by simp [plainS, inB]
    have hok : plain1 ⟨11, 0, va, 0, 0, 0⟩ := by refine ⟨?_, by simp, by simp⟩; simp [stOk, inB]; try omega
    go_wp2_with fail
    refine (l08Plain_any ⟨11, vd, va, vb, vc, 0⟩ _).mono ?_
    rw [hp]
    rintro e w7 ⟨rfl, hb7⟩
    have z7 := hb7.size
    (try simp at z7)
    have y7_0 : w.heap.size < w7.heap.size := (by omega)
    have y7_1 : w4.heap.size < w7.heap.size := (by omega)
    have k7_0 := bel_keeps hb7 (b := w.heap.size) (o := 0) (v := .int .i64 0) (by first | (go_simp; done) | assumption)
    have k7_1 := bel_keeps hb7 (b := w.heap.size) (o := 1) (v := .int .i64 0) (by first | (go_simp; done) | assumption)
    have k7_2 := bel_keeps hb7 (b := w.heap.size) (o := 2) (v := .int .i64 0) (by first | (go_simp; done) | assumption)
    have k7_3 := bel_keeps hb7 (b := w.heap.size) (o := 3) (v := .int .i64 0) (by first | (go_simp; done) | assumption)
    have k7_4 := bel_keeps hb7 (b := w.heap.size) (o := 4) (v := .int .i64 0) (by first | (go_simp; done) | assumption)
    have k7_5 := bel_keeps hb7 (b := w.heap.size) (o := 5) (v := .int .i64 0) (by first | (go_simp; done) | assumption)
    have k7_6 := bel_keeps hb7 (b := w4.heap.size) (o := 0) (v := .int .i64 11) (by first | (go_simp; done) | assumption)
    have k7_7 := bel_keeps hb7 (b := w4.heap.size) (o := 1) (v := .int .i64 vd) (by first | (go_simp; done) | assumption)
    have k7_8 := bel_keeps hb7 (b := w4.heap.size) (o := 2) (v := .int .i64 va) (by first | (go_simp; done) | assumption)
    have k7_9 := bel_keeps hb7 (b := w4.heap.size) (o := 3) (v := .int .i64 vb) (by first | (go_simp; done) | assumption)
    have k7_10 := bel_keeps hb7 (b := w4.heap.size) (o := 4) (v := .int .i64 vc) (by first | (go_simp; done) | assumption)
    have k7_11 := bel_keeps hb7 (b := w4.heap.size) (o := 5) (v := .int .i64 0) (by first | (go_simp; done) | assumption)
    have f7_0 := bel_free hb7 (b := w.heap.size) (o := 0) (by first | omega | (simp; done) | (simp; omega)) (by first | (go_simp; done) | assumption)
    have f7_1 := bel_free hb7 (b := w.heap.size) (o := 1) (by first | omega | (simp; done) | (simp; omega)) (by first | (go_simp; done) | assumption)
    have f7_2 := bel_free hb7 (b := w.heap.size) (o := 2) (by first | omega | (simp; done) | (simp; omega)) (by first | (go_simp; done) | assumption)
    have f7_3 := bel_free hb7 (b := w.heap.size) (o := 3) (by first | omega | (simp; done) | (simp; omega)) (by first | (go_simp; done) | assumption)
    have f7_4 := bel_free hb7 (b := w.heap.size) (o := 4) (by first | omega | (simp; done) | (simp; omega)) (by first | (go_simp; done) | assumption)
    have f7_5 := bel_free hb7 (b := w.heap.size) (o := 5) (by first | omega | (simp; done) | (simp; omega)) (by first | (go_simp; done) | assumption)
    have f7_6 := bel_free hb7 (b := w4.heap.size) (o := 0) (by first | omega | (simp; done) | (simp; omega)) (by first | (go_simp; done) | assumption)
    have f7_7 := bel_free hb7 (b := w4.heap.size) (o := 1) (by first | omega | (simp; done) | (simp; omega)) (by first | (go_simp; done) | assumption)
    have f7_8 := bel_free hb7 (b := w4.heap.size) (o := 2) (by first | omega | (simp; done) | (simp; omega)) (by first | (go_simp; done) | assumption)
    have f7_9 := bel_free hb7 (b := w4.heap.size) (o := 3) (by first | omega | (simp; done) | (simp; omega)) (by first | (go_simp; done) | assumption)
    have f7_10 := bel_free hb7 (b := w4.heap.size) (o := 4) (by first | omega | (simp; done) | (simp; omega)) (by first | (go_simp; done) | assumption)
    have f7_11 := bel_free hb7 (b := w4.heap.size) (o := 5) (by first | omega | (simp; done) | (simp; omega)) (by first | (go_simp; done) | assumption)
    clear k6_0 k6_1 k6_2 k6_3 k6_4 k6_5 k6_6 k6_7 k6_8 k6_9 k6_10 k6_11 f6_0 f6_1 f6_2 f6_3 f6_4 f6_5 f6_6 f6_7 f6_8 f6_9 f6_10 f6_11
    unfold stV
    go_wp2_with fail
    refine bodyPost_ret (v := .agg #[.int .i64 (11), .int .i64 (0), .int .i64 (va), .int .i64 (0), .int .i64 (0), .int .i64 (0)]) (by simp [results, Try.results120, go_sem, k7_0, k7_1, k7_2, k7_3, k7_4, k7_5, f7_0, f7_1, f7_2, f7_3, f7_4, f7_5]) rfl ⟨⟨11, 0, va, 0, 0, 0⟩, rfl, hok, hd6.keep fun q hq => (by (repeat (first | with_reducible exact Kp.refl _ _ | (with_reducible refine Kp.rng ?_ (by assumption) ?_) | (with_reducible refine Kp.below ?_ (by assumption)) | (with_reducible refine Kp.grown ?_ (by assumption) ?_) | (with_reducible refine Kp.alloc ?_ _) | (with_reducible refine Kp.drew ?_) | (with_reducible refine Kp.drewN ?_ _) | (with_reducible refine Kp.setCell ?_ _ ?_))) <;> (first | omega | (simp; done) | (simp; omega))), ⟨(by (repeat (first | with_reducible exact Below.refl _ _ | (with_reducible refine bel_next ?_ ?_ (by assumption)) | (with_reducible refine Below.alloc ?_ ?_ _) | (with_reducible refine Below.drew ?_) | (with_reducible refine below_drewN ?_ _) | (with_reducible refine Below.setCell ?_ ?_ _))) <;> (first | omega | (simp; done) | (simp; omega))), fun q hq => Kp.of_lt fun hql => (by (repeat (first | with_reducible exact Kp.refl _ _ | (with_reducible refine Kp.rng ?_ (by assumption) ?_) | (with_reducible refine Kp.below ?_ (by assumption)) | (with_reducible refine Kp.grown ?_ (by assumption) ?_) | (with_reducible refine Kp.alloc ?_ _) | (with_reducible refine Kp.drew ?_) | (with_reducible refine Kp.drewN ?_ _) | (with_reducible refine Kp.setCell ?_ _ ?_))) <;> (first | omega | (simp; done) | (simp; omega)))⟩⟩
  ·
    have q0 : (x == 0) = false := by simp; omega
    have q1 : (x == 1) = false := by simp; omega
    have q2 : (x == 2) = false := by simp; omega
    have q3 : (x == 3) = false := by simp; omega
    have q4 : (x == 4) = false := by simp; omega
    have q5 : (x == 5) = false := by simp; omega
    have q6 : (x == 6) = false := by simp; omega
    go_wp2_with fail
    refine (below_dr g xs ad c 7 _ (hd6.keep fun q hq => (by (repeat (first | with_reducible exact Kp.refl _ _ | (with_reducible refine Kp.rng ?_ (by assumption) ?_) | (with_reducible refine Kp.below ?_ (by assumption)) | (with_reducible refine Kp.grown ?_ (by assumption) ?_) | (with_reducible refine Kp.alloc ?_ _) | (with_reducible refine Kp.drew ?_) | (with_reducible refine Kp.drewN ?_ _) | (with_reducible refine Kp.setCell ?_ _ ?_))) <;> (first | omega | (simp; done) | (simp; omega))))).mono ?_
    rintro e w7 ⟨vo, rfl, vo0, vo1, _, hd7, ob7, or7⟩
    have vo1 := vo1 (by omega)
    have z7 := ob7.size
    (try simp at z7)
    have y7_0 : w.heap.size < w7.heap.size := (by omega)
    have y7_1 : w4.heap.size < w7.heap.size := (by omega)
    have k7_0 : w7.cell? ⟨w.heap.size, 0, none⟩ = some (.int .i64 0) := or7.keeps (by omega) (by first | (go_simp; done) | assumption)
    have k7_1 : w7.cell? ⟨w.heap.size, 1, none⟩ = some (.int .i64 0) := or7.keeps (by omega) (by first | (go_simp; done) | assumption)
    have k7_2 : w7.cell? ⟨w.heap.size, 2, none⟩ = some (.int .i64 0) := or7.keeps (by omega) (by first | (go_simp; done) | assumption)
    have k7_3 : w7.cell? ⟨w.heap.size, 3, none⟩ = some (.int .i64 0) := or7.keeps (by omega) (by first | (go_simp; done) | assumption)
    have k7_4 : w7.cell? ⟨w.heap.size, 4, none⟩ = some (.int .i64 0) := or7.keeps (by omega) (by first | (go_simp; done) | assumption)
    have k7_5 : w7.cell? ⟨w.heap.size, 5, none⟩ = some (.int .i64 0) := or7.keeps (by omega) (by first | (go_simp; done) | assumption)
    have k7_6 : w7.cell? ⟨w4.heap.size, 0, none⟩ = some (.int .i64 0) := or7.keeps (by omega) (by first | (go_simp; done) | assumption)
    have k7_7 : w7.cell? ⟨w4.heap.size, 1, none⟩ = some (.int .i64 vd) := or7.keeps (by omega) (by first | (go_simp; done) | assumption)
    have k7_8 : w7.cell? ⟨w4.heap.size, 2, none⟩ = some (.int .i64 va) := or7.keeps (by omega) (by first | (go_simp; done) | assumption)
    have k7_9 : w7.cell? ⟨w4.heap.size, 3, none⟩ = some (.int .i64 vb) := or7.keeps (by omega) (by first | (go_simp; done) | assumption)
    have k7_10 : w7.cell? ⟨w4.heap.size, 4, none⟩ = some (.int .i64 vc) := or7.keeps (by omega) (by first | (go_simp; done) | assumption)
    have k7_11 : w7.cell? ⟨w4.heap.size, 5, none⟩ = some (.int .i64 0) := or7.keeps (by omega) (by first | (go_simp; done) | assumption)
    have f7_0 : w7.frozen? ⟨w.heap.size, 0, none⟩ = false := or7.free (by omega) (by first | omega | (simp; done) | (simp; omega)) (by first | (go_simp; done) | assumption)
    have f7_1 : w7.frozen? ⟨w.heap.size, 1, none⟩ = false := or7.free (by omega) (by first | omega | (simp; done) | (simp; omega)) (by first | (go_simp; done) | assumption)
    have f7_2 : w7.frozen? ⟨w.heap.size, 2, none⟩ = false := or7.free (by omega) (by first | omega | (simp; done) | (simp; omega)) (by first | (go_simp; done) | assumption)
    have f7_3 : w7.frozen? ⟨w.heap.size, 3, none⟩ = false := or7.free (by omega) (by first | omega | (simp; done) | (simp; omega)) (by first | (go_simp; done) | assumption)
    have f7_4 : w7.frozen? ⟨w.heap.size, 4, none⟩ = false := or7.free (by omega) (by first | omega | (simp; done) | (simp; omega)) (by first | (go_simp; done) | assumption)
    have f7_5 : w7.frozen? ⟨w.heap.size, 5, none⟩ = false := or7.free (by omega) (by first | omega | (simp; done) | (simp; omega)) (by first | (go_simp; done) | assumption)
    have f7_6 : w7.frozen? ⟨w4.heap.size, 0, none⟩ = false := or7.free (by omega) (by first | omega | (simp; done) | (simp; omega)) (by first | (go_simp; done) | assumption)
    have f7_7 : w7.frozen? ⟨w4.heap.size, 1, none⟩ = false := or7.free (by omega) (by first | omega | (simp; done) | (simp; omega)) (by first | (go_simp; done) | assumption)
    have f7_8 : w7.frozen? ⟨w4.heap.size, 2, none⟩ = false := or7.free (by omega) (by first | omega | (simp; done) | (simp; omega)) (by first | (go_simp; done) | assumption)
    have f7_9 : w7.frozen? ⟨w4.heap.size, 3, none⟩ = false := or7.free (by omega) (by first | omega | (simp; done) | (simp; omega)) (by first | (go_simp; done) | assumption)
    have f7_10 : w7.frozen? ⟨w4.heap.size, 4, none⟩ = false := or7.free (by omega) (by first | omega | (simp; done) | (simp; omega)) (by first | (go_simp; done) | assumption)
    have f7_11 : w7.frozen? ⟨w4.heap.size, 5, none⟩ = false := or7.free (by omega) (by first | omega | (simp; done) | (simp; omega)) (by first | (go_simp; done) | assumption)
    clear k6_0 k6_1 k6_2 k6_3 k6_4 k6_5 k6_6 k6_7 k6_8 k6_9 k6_10 k6_11 f6_0 f6_1 f6_2 f6_3 f6_4 f6_5 f6_6 f6_7 f6_8 f6_9 f6_10 f6_11
    obtain ⟨o3, ho3⟩ : ∃ o, o = 3 + vo := ⟨_, rfl⟩
    have ho4 : 3 ≤ o3 ∧ o3 ≤ 9 := by omega
    have hin : inB (3 + vo) 3 9 = true := inB_iff.2 (by omega)
    have hp : plainS ⟨3 + vo, vd, va, vb, vc, 0⟩ = ⟨3 + vo, vd, va, vb, 0, 0⟩ := by simp only [plainS]; rw [if_neg (by omega), if_neg (by omega), if_pos hin]
    have hok : plain1 ⟨3 + vo, vd, va, vb, 0, 0⟩ := by refine ⟨?_, by simp; omega, by simp; omega⟩; simp only [stOk]; rw [if_neg (by omega), if_neg (by omega), if_pos hin]; simp [inB]; omega
    go_wp2_with fail
    refine (l08Plain_any ⟨3 + vo, vd, va, vb, vc, 0⟩ _).mono ?_
    rw [hp]
    rintro e w8 ⟨rfl, hb8⟩
    have z8 := hb8.size
    (try simp at z8)
    have y8_0 : w.heap.size < w8.heap.size := (by omega)
    have y8_1 : w4.heap.size < w8.heap.size := (by omega)
    have k8_0 := bel_keeps hb8 (b := w.heap.size) (o := 0) (v := .int .i64 0) (by first | (go_simp; done) | assumption)
    have k8_1 := bel_keeps hb8 (b := w.heap.size) (o := 1) (v := .int .i64 0) (by first | (go_simp; done) | assumption)
    have k8_2 := bel_keeps hb8 (b := w.heap.size) (o := 2) (v := .int .i64 0) (by first | (go_simp; done) | assumption)
    have k8_3 := bel_keeps hb8 (b := w.heap.size) (o := 3) (v := .int .i64 0) (by first | (go_simp; done) | assumption)
    have k8_4 := bel_keeps hb8 (b := w.heap.size) (o := 4) (v := .int .i64 0) (by first | (go_simp; done) | assumption)
    have k8_5 := bel_keeps hb8 (b := w.heap.size) (o := 5) (v := .int .i64 0) (by first | (go_simp; done) | assumption)
    have k8_6 := bel_keeps hb8 (b := w4.heap.size) (o := 0) (v := .int .i64 (3 + vo)) (by first | (go_simp; done) | assumption)
    have k8_7 := bel_keeps hb8 (b := w4.heap.size) (o := 1) (v := .int .i64 vd) (by first | (go_simp; done) | assumption)
    have k8_8 := bel_keeps hb8 (b := w4.heap.size) (o := 2) (v := .int .i64 va) (by first | (go_simp; done) | assumption)
    have k8_9 := bel_keeps hb8 (b := w4.heap.size) (o := 3) (v := .int .i64 vb) (by first | (go_simp; done) | assumption)
    have k8_10 := bel_keeps hb8 (b := w4.heap.size) (o := 4) (v := .int .i64 vc) (by first | (go_simp; done) | assumption)
    have k8_11 := bel_keeps hb8 (b := w4.heap.size) (o := 5) (v := .int .i64 0) (by first | (go_simp; done) | assumption)
    have f8_0 := bel_free hb8 (b := w.heap.size) (o := 0) (by first | omega | (simp; done) | (simp; omega)) (by first | (go_simp; done) | assumption)
    have f8_1 := bel_free hb8 (b := w.heap.size) (o := 1) (by first | omega | (simp; done) | (simp; omega)) (by first | (go_simp; done) | assumption)
    have f8_2 := bel_free hb8 (b := w.heap.size) (o := 2) (by first | omega | (simp; done) | (simp; omega)) (by first | (go_simp; done) | assumption)
    have f8_3 := bel_free hb8 (b := w.heap.size) (o := 3) (by first | omega | (simp; done) | (simp; omega)) (by first | (go_simp; done) | assumption)
    have f8_4 := bel_free hb8 (b := w.heap.size) (o := 4) (by first | omega | (simp; done) | (simp; omega)) (by first | (go_simp; done) | assumption)
    have f8_5 := bel_free hb8 (b := w.heap.size) (o := 5) (by first | omega | (simp; done) | (simp; omega)) (by first | (go_simp; done) | assumption)
    have f8_6 := bel_free hb8 (b := w4.heap.size) (o := 0) (by first | omega | (simp; done) | (simp; omega)) (by first | (go_simp; done) | assumption)
    have f8_7 := bel_free hb8 (b := w4.heap.size) (o := 1) (by first | omega | (simp; done) | (simp; omega)) (by first | (go_simp; done) | assumption)
    have f8_8 := bel_free hb8 (b := w4.heap.size) (o := 2) (by first | omega | (simp; done) | (simp; omega)) (by first | (go_simp; done) | assumption)
    have f8_9 := bel_free hb8 (b := w4.heap.size) (o := 3) (by first | omega | (simp; done) | (simp; omega)) (by first | (go_simp; done) | assumption)
    have f8_10 := bel_free hb8 (b := w4.heap.size) (o := 4) (by first | omega | (simp; done) | (simp; omega)) (by first | (go_simp; done) | assumption)
    have f8_11 := bel_free hb8 (b := w4.heap.size) (o := 5) (by first | omega | (simp; done) | (simp; omega)) (by first | (go_simp; done) | assumption)
    clear k7_0 k7_1 k7_2 k7_3 k7_4 k7_5 k7_6 k7_7 k7_8 k7_9 k7_10 k7_11 f7_0 f7_1 f7_2 f7_3 f7_4 f7_5 f7_6 f7_7 f7_8 f7_9 f7_10 f7_11
    unfold stV
    go_wp2_with fail
    refine bodyPost_ret (v := .agg #[.int .i64 (3 + vo), .int .i64 (vd), .int .i64 (va), .int .i64 (vb), .int .i64 (0), .int .i64 (0)]) (by simp [results, Try.results120, go_sem, k8_0, k8_1, k8_2, k8_3, k8_4, k8_5, f8_0, f8_1, f8_2, f8_3, f8_4, f8_5]) rfl ⟨⟨3 + vo, vd, va, vb, 0, 0⟩, rfl, hok, hd7.keep fun q hq => (by (repeat (first | with_reducible exact Kp.refl _ _ | (with_reducible refine Kp.rng ?_ (by assumption) ?_) | (with_reducible refine Kp.below ?_ (by assumption)) | (with_reducible refine Kp.grown ?_ (by assumption) ?_) | (with_reducible refine Kp.alloc ?_ _) | (with_reducible refine Kp.drew ?_) | (with_reducible refine Kp.drewN ?_ _) | (with_reducible refine Kp.setCell ?_ _ ?_))) <;> (first | omega | (simp; done) | (simp; omega))), ⟨(by (repeat (first | with_reducible exact Below.refl _ _ | (with_reducible refine bel_next ?_ ?_ (by assumption)) | (with_reducible refine Below.alloc ?_ ?_ _) | (with_reducible refine Below.drew ?_) | (with_reducible refine below_drewN ?_ _) | (with_reducible refine Below.setCell ?_ ?_ _))) <;> (first | omega | (simp; done) | (simp; omega))), fun q hq => Kp.of_lt fun hql => (by (repeat (first | with_reducible exact Kp.refl _ _ | (with_reducible refine Kp.rng ?_ (by assumption) ?_) | (with_reducible refine Kp.below ?_ (by assumption)) | (with_reducible refine Kp.grown ?_ (by assumption) ?_) | (with_reducible refine Kp.alloc ?_ _) | (with_reducible refine Kp.drew ?_) | (with_reducible refine Kp.drewN ?_ _) | (with_reducible refine Kp.setCell ?_ _ ?_))) <;> (first | omega | (simp; done) | (simp; omega)))⟩⟩
end Go.Proofs.Ytfeffofoofmgcaa

/- DrProg -/
namespace Go.Proofs.Ytfeffofoofmgcaa
open Go.RowKit
set_option linter.unusedVariables false
set_option linter.unusedSimpArgs false

theorem Ur.append {b : Nat} {xs us : List St} (h : Ur b xs us) : ∀ {ys vs : List St}, Ur b ys vs → Ur b (xs ++ ys) (us ++ vs) := by
  induction h with
  | nil b => intro ys vs h; simpa using h
  | plain b s r u h1 h2 h3 h4 ih => intro ys vs h; exact .plain _ s _ _ h1 h2 h3 (ih h)
  | loop b l e body r v u h1 h2 h3 h4 h5 h6 ih5 ih6 =>
    intro ys vs h
    have := Ur.loop b l e body (r ++ ys) v (u ++ vs) h1 h2 h3 h4 h5 (ih6 h)
    simpa [List.append_assoc] using this
theorem Ur.one {b : Nat} {s : St} (h : plain1 s) : Ur b [s] [s] := .plain b s [] [] h.1 h.2.1 h.2.2 (.nil b)
theorem Ur.oneLoop {b : Nat} {n : Int} {body v : List St} (h0 : 1 ≤ n) (h8 : n ≤ 8) (h : Ur b body v) : Ur (b + 1) ([⟨12, 0, 0, 0, 0, n⟩] ++ body ++ [⟨13, 0, 0, 0, 0, 0⟩]) (repS n v) := by
  have := Ur.loop b ⟨12, 0, 0, 0, 0, n⟩ ⟨13, 0, 0, 0, 0, 0⟩ body [] v [] (by simp [stOk, inB]; omega) (by simp [stOk, inB]) rfl rfl h (.nil _)
  simpa using this
theorem RdC.six {w : World} {b : Nat} {s : St} (h0 : w.cell? ⟨b, 0, none⟩ = some (.int .i64 s.op)) (h1 : w.cell? ⟨b, 1, none⟩ = some (.int .i64 s.dst)) (h2 : w.cell? ⟨b, 2, none⟩ = some (.int .i64 s.a)) (h3 : w.cell? ⟨b, 3, none⟩ = some (.int .i64 s.b))
    (h4 : w.cell? ⟨b, 4, none⟩ = some (.int .i64 s.c)) (h5 : w.cell? ⟨b, 5, none⟩ = some (.int .i64 s.n)) : RdC w (some ⟨b, 0, none⟩) (stCells [s]) := by
  refine .inr ⟨b, 0, rfl, fun j hj => ?_⟩
  have : j < 6 := by simpa [stCells, St.cells] using hj
  match j, this with
  | 0, _ => exact h0
  | 1, _ => exact h1
  | 2, _ => exact h2
  | 3, _ => exact h3
  | 4, _ => exact h4
  | 5, _ => exact h5

set_option maxRecDepth 20000 in
set_option maxHeartbeats 8000000 in
theorem block_dr0 (g : Nat) (xs : List Int) (ad : Option Addr) (c : Nat) (n : Int) (w : World) (hd : Dr w g xs ad c) (hn0 : 0 ≤ n) (hn : n ≤ 2) :
    Calls Try.prog 116 #[.pointer (some ⟨g, 0, none⟩), .int .i64 n, .int .i64 2] w fun e w' => ∃ (gb cb : Nat) (blk : List St), e = .returned (.slice (some ⟨gb, 0, none⟩) blk.length cb) ∧ (∃ us, Ur 0 blk us) ∧ (blk.length : Int) ≤ n ∧
      Own w' w.heap.size 38 6 (some ⟨gb, 0, none⟩) blk.length cb (stCells blk) ∧ Dr w' g xs ad c ∧ Only g w w' := by
  have hgt := hd.gt
  go_enter Try.func116, Try.ntmps116
  go_wp2_with fail
  go_loopw [7, 8] (fun o i wr => ∃ (k gb cb : Nat) (blk us : List St), (k : Int) ≤ n ∧ i = .int .i64 k ∧ o = .slice (some ⟨gb, 0, none⟩) blk.length cb ∧ Ur 0 blk us ∧ blk.length ≤ k ∧
      Own wr w.heap.size 38 6 (some ⟨gb, 0, none⟩) blk.length cb (stCells blk) ∧ Dr wr g xs ad c ∧ Only g w wr) (fun _ i _ => n.toNat - (intOf i).toNat)
  case atStart =>
    refine ⟨0, w.heap.size, 0, [], [], by omega, rfl, rfl, .nil _, by simp, ?_, hd.keep fun q hq => (by (repeat (first | with_reducible exact Kp.refl _ _ | (with_reducible refine Kp.rng ?_ (by assumption) ?_) | (with_reducible refine Kp.below ?_ (by assumption)) | (with_reducible refine Kp.grown ?_ (by assumption) ?_) | (with_reducible refine Kp.alloc ?_ _) | (with_reducible refine Kp.drew ?_) | (with_reducible refine Kp.drewN ?_ _) | (with_reducible refine Kp.setCell ?_ _ ?_))) <;> (first | omega | (simp; done) | (simp; omega))), ⟨(by (repeat (first | with_reducible exact Below.refl _ _ | (with_reducible refine bel_next ?_ ?_ (by assumption)) | (with_reducible refine Below.alloc ?_ ?_ _) | (with_reducible refine Below.drew ?_) | (with_reducible refine below_drewN ?_ _) | (with_reducible refine Below.setCell ?_ ?_ _))) <;> (first | omega | (simp; done) | (simp; omega))), fun q hq => Kp.of_lt fun hql => (by (repeat (first | with_reducible exact Kp.refl _ _ | (with_reducible refine Kp.rng ?_ (by assumption) ?_) | (with_reducible refine Kp.below ?_ (by assumption)) | (with_reducible refine Kp.grown ?_ (by assumption) ?_) | (with_reducible refine Kp.alloc ?_ _) | (with_reducible refine Kp.drew ?_) | (with_reducible refine Kp.drewN ?_ _) | (with_reducible refine Kp.setCell ?_ _ ?_))) <;> (first | omega | (simp; done) | (simp; omega)))⟩⟩
    exact own_new w 38 6
  case round =>
    obtain ⟨k, gb, cb, blk, us, hk, rfl, rfl, hur, hbl, hown, hdr, ob0, or0⟩ := hrel
    have z0 := ob0.size
    have ge0 := hown.ge
    have HU := Lib.hid hur
    have HBL := Lib.hid hbl
    have hbl100 : blk.length ≤ 100 := by omega
    have hgt0 := hdr.gt
    clear hur hbl
    by_cases hlt : (k : Int) < n
    ·
      go_wp2_with fail
      refine (l08Stmt_dr g xs ad c _ ((hdr).keep fun q hq => (by (repeat (first | with_reducible exact Kp.refl _ _ | (with_reducible refine Kp.rng ?_ (by assumption) ?_) | (with_reducible refine Kp.below ?_ (by assumption)) | (with_reducible refine Kp.grown ?_ (by assumption) ?_) | (with_reducible refine Kp.alloc ?_ _) | (with_reducible refine Kp.drew ?_) | (with_reducible refine Kp.drewN ?_ _) | (with_reducible refine Kp.setCell ?_ _ ?_))) <;> (first | omega | (simp; done) | (simp; omega))))).mono ?_
      rintro e w1 ⟨s, rfl, hpl, hd1, ob1, or1⟩
      have z1 := ob1.size
      (try simp at z1)
      obtain ⟨op, dst, sa, sb, sc, sn⟩ := s
      unfold stV
      have HPL := Lib.hid hpl
      clear hpl
      go_wp2_with (refine wpList_appSt _ rfl _ _ rfl w.heap.size blk.length cb gb w1.heap.size 0 1 1 blk [⟨op, dst, sa, sb, sc, sn⟩] (by rfl) (by rfl) ((hown).later (by (repeat (first | with_reducible exact Kp.refl _ _ | (with_reducible refine Kp.rng ?_ (by assumption) ?_) | (with_reducible refine Kp.below ?_ (by assumption)) | (with_reducible refine Kp.grown ?_ (by assumption) ?_) | (with_reducible refine Kp.alloc ?_ _) | (with_reducible refine Kp.drew ?_) | (with_reducible refine Kp.drewN ?_ _) | (with_reducible refine Kp.setCell ?_ _ ?_))) <;> (first | omega | (simp; done) | (simp; omega)))) (RdC.six (by go_simp) (by go_simp) (by go_simp) (by go_simp) (by go_simp) (by go_simp)) rfl (by omega) (by first | omega | (simp; done) | (simp; omega)) ?_; intro gn2 cn2 w2 hn2 hb2 hg2 hat2; (try simp at hat2); have z2 := hb2.size; (try simp at z2); have y2 := hg2.size; (try simp at y2); have ge2 := hn2.ge)
      have HE : Hid (((blk ++ [⟨op, dst, sa, sb, sc, sn⟩]) : List St).length = blk.length + 1) := by show _ = _; simp <;> omega
      go_wp2_with fail
      go_roundw
      case rel => exact ⟨k + 1, gn2, cn2, (blk ++ [⟨op, dst, sa, sb, sc, sn⟩]), _, by omega, by go_num, by rw [HE.out], HU.out.append (Ur.one HPL.out), by (rw [HE.out]; have := HBL.out; omega), by rw [HE.out]; exact hn2, ((hd1).keep fun q hq => (by (repeat (first | with_reducible exact Kp.refl _ _ | (with_reducible refine Kp.rng ?_ (by assumption) ?_) | (with_reducible refine Kp.below ?_ (by assumption)) | (with_reducible refine Kp.grown ?_ (by assumption) ?_) | (with_reducible refine Kp.alloc ?_ _) | (with_reducible refine Kp.drew ?_) | (with_reducible refine Kp.drewN ?_ _) | (with_reducible refine Kp.setCell ?_ _ ?_))) <;> (first | omega | (simp; done) | (simp; omega)))), ⟨(by (repeat (first | with_reducible exact Below.refl _ _ | (with_reducible refine bel_next ?_ ?_ (by assumption)) | (with_reducible refine Below.alloc ?_ ?_ _) | (with_reducible refine Below.drew ?_) | (with_reducible refine below_drewN ?_ _) | (with_reducible refine Below.setCell ?_ ?_ _))) <;> (first | omega | (simp; done) | (simp; omega))), fun q hq => Kp.of_lt fun hql => (by (repeat (first | with_reducible exact Kp.refl _ _ | (with_reducible refine Kp.rng ?_ (by assumption) ?_) | (with_reducible refine Kp.below ?_ (by assumption)) | (with_reducible refine Kp.grown ?_ (by assumption) ?_) | (with_reducible refine Kp.alloc ?_ _) | (with_reducible refine Kp.drew ?_) | (with_reducible refine Kp.drewN ?_ _) | (with_reducible refine Kp.setCell ?_ _ ?_))) <;> (first | omega | (simp; done) | (simp; omega)))⟩⟩
      case measure => simp [intOf]; omega
    · go_wp2_with fail
      go_ret
      exact ⟨gb, cb, blk, rfl, ⟨us, HU.out⟩, (by have := HBL.out; omega), hown, hdr, ob0, or0⟩
set_option maxRecDepth 20000 in
set_option maxHeartbeats 8000000 in
theorem block_dr1 (g : Nat) (xs : List Int) (ad : Option Addr) (c : Nat) (n : Int) (w : World) (hd : Dr w g xs ad c) (hn0 : 0 ≤ n) (hn : n ≤ 2) :
    Calls Try.prog 116 #[.pointer (some ⟨g, 0, none⟩), .int .i64 n, .int .i64 1] w fun e w' => ∃ (gb cb : Nat) (blk : List St), e = .returned (.slice (some ⟨gb, 0, none⟩) blk.length cb) ∧ (∃ us, Ur 1 blk us) ∧ (blk.length : Int) ≤ 4 * n ∧
      Own w' w.heap.size 38 6 (some ⟨gb, 0, none⟩) blk.length cb (stCells blk) ∧ Dr w' g xs ad c ∧ Only g w w' := by
  have hgt := hd.gt
  go_enter Try.func116, Try.ntmps116
  go_wp2_with fail
  go_loopw [7, 8] (fun o i wr => ∃ (k gb cb : Nat) (blk us : List St), (k : Int) ≤ n ∧ i = .int .i64 k ∧ o = .slice (some ⟨gb, 0, none⟩) blk.length cb ∧ Ur 1 blk us ∧ blk.length ≤ 4 * k ∧
      Own wr w.heap.size 38 6 (some ⟨gb, 0, none⟩) blk.length cb (stCells blk) ∧ Dr wr g xs ad c ∧ Only g w wr) (fun _ i _ => n.toNat - (intOf i).toNat)
  case atStart =>
    refine ⟨0, w.heap.size, 0, [], [], by omega, rfl, rfl, .nil _, by simp, ?_, hd.keep fun q hq => (by (repeat (first | with_reducible exact Kp.refl _ _ | (with_reducible refine Kp.rng ?_ (by assumption) ?_) | (with_reducible refine Kp.below ?_ (by assumption)) | (with_reducible refine Kp.grown ?_ (by assumption) ?_) | (with_reducible refine Kp.alloc ?_ _) | (with_reducible refine Kp.drew ?_) | (with_reducible refine Kp.drewN ?_ _) | (with_reducible refine Kp.setCell ?_ _ ?_))) <;> (first | omega | (simp; done) | (simp; omega))), ⟨(by (repeat (first | with_reducible exact Below.refl _ _ | (with_reducible refine bel_next ?_ ?_ (by assumption)) | (with_reducible refine Below.alloc ?_ ?_ _) | (with_reducible refine Below.drew ?_) | (with_reducible refine below_drewN ?_ _) | (with_reducible refine Below.setCell ?_ ?_ _))) <;> (first | omega | (simp; done) | (simp; omega))), fun q hq => Kp.of_lt fun hql => (by (repeat (first | with_reducible exact Kp.refl _ _ | (with_reducible refine Kp.rng ?_ (by assumption) ?_) | (with_reducible refine Kp.below ?_ (by assumption)) | (with_reducible refine Kp.grown ?_ (by assumption) ?_) | (with_reducible refine Kp.alloc ?_ _) | (with_reducible refine Kp.drew ?_) | (with_reducible refine Kp.drewN ?_ _) | (with_reducible refine Kp.setCell ?_ _ ?_))) <;> (first | omega | (simp; done) | (simp; omega)))⟩⟩
    exact own_new w 38 6
  case round =>
    obtain ⟨k, gb, cb, blk, us, hk, rfl, rfl, hur, hbl, hown, hdr, ob0, or0⟩ := hrel
    have z0 := ob0.size
    have ge0 := hown.ge
    have HU := Lib.hid hur
    have HBL := Lib.hid hbl
    have hbl100 : blk.length ≤ 100 := by omega
    have hgt0 := hdr.gt
    clear hur hbl
    by_cases hlt : (k : Int) < n
    ·
      by_cases h12 : (blk.length : Int) < 12
      ·
        go_wp2_with fail
        refine (once_dr g xs ad c 8 _ ((hdr).keep fun q hq => (by (repeat (first | with_reducible exact Kp.refl _ _ | (with_reducible refine Kp.rng ?_ (by assumption) ?_) | (with_reducible refine Kp.below ?_ (by assumption)) | (with_reducible refine Kp.grown ?_ (by assumption) ?_) | (with_reducible refine Kp.alloc ?_ _) | (with_reducible refine Kp.drew ?_) | (with_reducible refine Kp.drewN ?_ _) | (with_reducible refine Kp.setCell ?_ _ ?_))) <;> (first | omega | (simp; done) | (simp; omega))))).mono ?_
        rintro e w1 ⟨b, rfl, hd1, ob1, or1⟩
        have z1 := ob1.size
        (try simp at z1)
        cases b
        ·
          go_wp2_with fail
          refine (l08Stmt_dr g xs ad c _ ((hd1).keep fun q hq => (by (repeat (first | with_reducible exact Kp.refl _ _ | (with_reducible refine Kp.rng ?_ (by assumption) ?_) | (with_reducible refine Kp.below ?_ (by assumption)) | (with_reducible refine Kp.grown ?_ (by assumption) ?_) | (with_reducible refine Kp.alloc ?_ _) | (with_reducible refine Kp.drew ?_) | (with_reducible refine Kp.drewN ?_ _) | (with_reducible refine Kp.setCell ?_ _ ?_))) <;> (first | omega | (simp; done) | (simp; omega))))).mono ?_
          rintro e w2 ⟨s, rfl, hpl, hd2, ob2, or2⟩
          have z2 := ob2.size
          (try simp at z2)
          obtain ⟨op, dst, sa, sb, sc, sn⟩ := s
          unfold stV
          have HPL := Lib.hid hpl
          clear hpl
          go_wp2_with (refine wpList_appSt _ rfl _ _ rfl w.heap.size blk.length cb gb w2.heap.size 0 1 1 blk [⟨op, dst, sa, sb, sc, sn⟩] (by rfl) (by rfl) ((hown).later (by (repeat (first | with_reducible exact Kp.refl _ _ | (with_reducible refine Kp.rng ?_ (by assumption) ?_) | (with_reducible refine Kp.below ?_ (by assumption)) | (with_reducible refine Kp.grown ?_ (by assumption) ?_) | (with_reducible refine Kp.alloc ?_ _) | (with_reducible refine Kp.drew ?_) | (with_reducible refine Kp.drewN ?_ _) | (with_reducible refine Kp.setCell ?_ _ ?_))) <;> (first | omega | (simp; done) | (simp; omega)))) (RdC.six (by go_simp) (by go_simp) (by go_simp) (by go_simp) (by go_simp) (by go_simp)) rfl (by omega) (by first | omega | (simp; done) | (simp; omega)) ?_; intro gn3 cn3 w3 hn3 hb3 hg3 hat3; (try simp at hat3); have z3 := hb3.size; (try simp at z3); have y3 := hg3.size; (try simp at y3); have ge3 := hn3.ge)
          have HE : Hid (((blk ++ [⟨op, dst, sa, sb, sc, sn⟩]) : List St).length = blk.length + 1) := by show _ = _; simp <;> omega
          go_wp2_with fail
          go_roundw
          case rel => exact ⟨k + 1, gn3, cn3, (blk ++ [⟨op, dst, sa, sb, sc, sn⟩]), _, by omega, by go_num, by rw [HE.out], HU.out.append (Ur.one HPL.out), by (rw [HE.out]; have := HBL.out; omega), by rw [HE.out]; exact hn3, ((hd2).keep fun q hq => (by (repeat (first | with_reducible exact Kp.refl _ _ | (with_reducible refine Kp.rng ?_ (by assumption) ?_) | (with_reducible refine Kp.below ?_ (by assumption)) | (with_reducible refine Kp.grown ?_ (by assumption) ?_) | (with_reducible refine Kp.alloc ?_ _) | (with_reducible refine Kp.drew ?_) | (with_reducible refine Kp.drewN ?_ _) | (with_reducible refine Kp.setCell ?_ _ ?_))) <;> (first | omega | (simp; done) | (simp; omega)))), ⟨(by (repeat (first | with_reducible exact Below.refl _ _ | (with_reducible refine bel_next ?_ ?_ (by assumption)) | (with_reducible refine Below.alloc ?_ ?_ _) | (with_reducible refine Below.drew ?_) | (with_reducible refine below_drewN ?_ _) | (with_reducible refine Below.setCell ?_ ?_ _))) <;> (first | omega | (simp; done) | (simp; omega))), fun q hq => Kp.of_lt fun hql => (by (repeat (first | with_reducible exact Kp.refl _ _ | (with_reducible refine Kp.rng ?_ (by assumption) ?_) | (with_reducible refine Kp.below ?_ (by assumption)) | (with_reducible refine Kp.grown ?_ (by assumption) ?_) | (with_reducible refine Kp.alloc ?_ _) | (with_reducible refine Kp.drew ?_) | (with_reducible refine Kp.drewN ?_ _) | (with_reducible refine Kp.setCell ?_ _ ?_))) <;> (first | omega | (simp; done) | (simp; omega)))⟩⟩
          case measure => simp [intOf]; omega
        ·
          go_wp2_with fail
          refine (below_dr g xs ad c 3 _ ((hd1).keep fun q hq => (by (repeat (first | with_reducible exact Kp.refl _ _ | (with_reducible refine Kp.rng ?_ (by assumption) ?_) | (with_reducible refine Kp.below ?_ (by assumption)) | (with_reducible refine Kp.grown ?_ (by assumption) ?_) | (with_reducible refine Kp.alloc ?_ _) | (with_reducible refine Kp.drew ?_) | (with_reducible refine Kp.drewN ?_ _) | (with_reducible refine Kp.setCell ?_ _ ?_))) <;> (first | omega | (simp; done) | (simp; omega))))).mono ?_
          rintro e w2 ⟨vn, rfl, vn0, vn1, _, hd2, ob2, or2⟩
          have vn1 := vn1 (by omega)
          have z2 := ob2.size
          (try simp at z2)
          go_wp2_with (refine wpList_appSt _ rfl _ _ rfl w.heap.size blk.length cb gb w2.heap.size 0 1 1 blk [⟨12, 0, 0, 0, 0, 1 + vn⟩] (by rfl) (by rfl) ((hown).later (by (repeat (first | with_reducible exact Kp.refl _ _ | (with_reducible refine Kp.rng ?_ (by assumption) ?_) | (with_reducible refine Kp.below ?_ (by assumption)) | (with_reducible refine Kp.grown ?_ (by assumption) ?_) | (with_reducible refine Kp.alloc ?_ _) | (with_reducible refine Kp.drew ?_) | (with_reducible refine Kp.drewN ?_ _) | (with_reducible refine Kp.setCell ?_ _ ?_))) <;> (first | omega | (simp; done) | (simp; omega)))) (RdC.six (by go_simp) (by go_simp) (by go_simp) (by go_simp) (by go_simp) (by go_simp)) rfl (by omega) (by first | omega | (simp; done) | (simp; omega)) ?_; intro gn3 cn3 w3 hn3 hb3 hg3 hat3; (try simp at hat3); have z3 := hb3.size; (try simp at z3); have y3 := hg3.size; (try simp at y3); have ge3 := hn3.ge)
          go_wp2_with fail
          refine (below_dr g xs ad c 2 _ ((hd2).keep fun q hq => (by (repeat (first | with_reducible exact Kp.refl _ _ | (with_reducible refine Kp.rng ?_ (by assumption) ?_) | (with_reducible refine Kp.below ?_ (by assumption)) | (with_reducible refine Kp.grown ?_ (by assumption) ?_) | (with_reducible refine Kp.alloc ?_ _) | (with_reducible refine Kp.drew ?_) | (with_reducible refine Kp.drewN ?_ _) | (with_reducible refine Kp.setCell ?_ _ ?_))) <;> (first | omega | (simp; done) | (simp; omega))))).mono ?_
          rintro e w4 ⟨vm, rfl, vm0, vm1, _, hd4, ob4, or4⟩
          have vm1 := vm1 (by omega)
          have z4 := ob4.size
          (try simp at z4)
          go_wp2_with fail
          refine (block_dr0 g xs ad c (1 + vm) _ ((hd4).keep fun q hq => (by (repeat (first | with_reducible exact Kp.refl _ _ | (with_reducible refine Kp.rng ?_ (by assumption) ?_) | (with_reducible refine Kp.below ?_ (by assumption)) | (with_reducible refine Kp.grown ?_ (by assumption) ?_) | (with_reducible refine Kp.alloc ?_ _) | (with_reducible refine Kp.drew ?_) | (with_reducible refine Kp.drewN ?_ _) | (with_reducible refine Kp.setCell ?_ _ ?_))) <;> (first | omega | (simp; done) | (simp; omega)))) (by omega) (by omega)).mono ?_
          rintro e w5 ⟨gi, ci, bi, rfl, ⟨ui, huri⟩, hbi, howni, hd5, ob5, or5⟩
          have z5 := ob5.size
          (try simp at z5)
          have gei := howni.ge
          (try simp at gei)
          have HUI := Lib.hid huri
          clear huri
          have HX : True := trivial
          go_wp2_with (first | (refine wpList_appSt _ rfl _ _ rfl w.heap.size (blk.length + 1) cn3 gn3 gi 0 bi.length ci (blk ++ [⟨12, 0, 0, 0, 0, 1 + vn⟩]) bi (by rfl) (by rfl) ((hn3).later (by (repeat (first | with_reducible exact Kp.refl _ _ | (with_reducible refine Kp.rng ?_ (by assumption) ?_) | (with_reducible refine Kp.below ?_ (by assumption)) | (with_reducible refine Kp.grown ?_ (by assumption) ?_) | (with_reducible refine Kp.alloc ?_ _) | (with_reducible refine Kp.drew ?_) | (with_reducible refine Kp.drewN ?_ _) | (with_reducible refine Kp.setCell ?_ _ ?_))) <;> (first | omega | (simp; done) | (simp; omega)))) (howni.later (by (repeat (first | with_reducible exact Kp.refl _ _ | (with_reducible refine Kp.rng ?_ (by assumption) ?_) | (with_reducible refine Kp.below ?_ (by assumption)) | (with_reducible refine Kp.grown ?_ (by assumption) ?_) | (with_reducible refine Kp.alloc ?_ _) | (with_reducible refine Kp.drew ?_) | (with_reducible refine Kp.drewN ?_ _) | (with_reducible refine Kp.setCell ?_ _ ?_))) <;> (first | omega | (simp; done) | (simp; omega)))).rd rfl (by omega) (by first | omega | (simp; done) | (simp; omega)) ?_; intro gn6 cn6 w6 hn6 hb6 hg6 hat6; (try simp at hat6); have z6 := hb6.size; (try simp at z6); have y6 := hg6.size; (try simp at y6); have ge6 := hn6.ge) | (refine wpList_appSt _ rfl _ _ rfl w.heap.size (blk.length + 1 + bi.length) cn6 gn6 w6.heap.size 0 1 1 ((blk ++ [⟨12, 0, 0, 0, 0, 1 + vn⟩]) ++ bi) [⟨13, 0, 0, 0, 0, 0⟩] (by rfl) (by rfl) ((hn6).later (by (repeat (first | with_reducible exact Kp.refl _ _ | (with_reducible refine Kp.rng ?_ (by assumption) ?_) | (with_reducible refine Kp.below ?_ (by assumption)) | (with_reducible refine Kp.grown ?_ (by assumption) ?_) | (with_reducible refine Kp.alloc ?_ _) | (with_reducible refine Kp.drew ?_) | (with_reducible refine Kp.drewN ?_ _) | (with_reducible refine Kp.setCell ?_ _ ?_))) <;> (first | omega | (simp; done) | (simp; omega)))) (RdC.six (by go_simp) (by go_simp) (by go_simp) (by go_simp) (by go_simp) (by go_simp)) rfl (by omega) (by first | omega | (simp; done) | (simp; omega)) ?_; intro gn7 cn7 w7 hn7 hb7 hg7 hat7; (try simp at hat7); have z7 := hb7.size; (try simp at z7); have y7 := hg7.size; (try simp at y7); have ge7 := hn7.ge))
          have HE : Hid (((((blk ++ [⟨12, 0, 0, 0, 0, 1 + vn⟩]) ++ bi) ++ [⟨13, 0, 0, 0, 0, 0⟩]) : List St).length = blk.length + 1 + bi.length + 1) := by show _ = _; simp <;> omega
          go_wp2_with fail
          go_roundw
          case rel => exact ⟨k + 1, gn7, cn7, (((blk ++ [⟨12, 0, 0, 0, 0, 1 + vn⟩]) ++ bi) ++ [⟨13, 0, 0, 0, 0, 0⟩]), _, by omega, by go_num, by rw [HE.out], (by have := HU.out.append (Ur.oneLoop (n := 1 + vn) (by omega) (by omega) HUI.out); simpa [List.append_assoc] using this), by (rw [HE.out]; have := HBL.out; omega), by rw [HE.out]; exact hn7, ((hd5).keep fun q hq => (by (repeat (first | with_reducible exact Kp.refl _ _ | (with_reducible refine Kp.rng ?_ (by assumption) ?_) | (with_reducible refine Kp.below ?_ (by assumption)) | (with_reducible refine Kp.grown ?_ (by assumption) ?_) | (with_reducible refine Kp.alloc ?_ _) | (with_reducible refine Kp.drew ?_) | (with_reducible refine Kp.drewN ?_ _) | (with_reducible refine Kp.setCell ?_ _ ?_))) <;> (first | omega | (simp; done) | (simp; omega)))), ⟨(by (repeat (first | with_reducible exact Below.refl _ _ | (with_reducible refine bel_next ?_ ?_ (by assumption)) | (with_reducible refine Below.alloc ?_ ?_ _) | (with_reducible refine Below.drew ?_) | (with_reducible refine below_drewN ?_ _) | (with_reducible refine Below.setCell ?_ ?_ _))) <;> (first | omega | (simp; done) | (simp; omega))), fun q hq => Kp.of_lt fun hql => (by (repeat (first | with_reducible exact Kp.refl _ _ | (with_reducible refine Kp.rng ?_ (by assumption) ?_) | (with_reducible refine Kp.below ?_ (by assumption)) | (with_reducible refine Kp.grown ?_ (by assumption) ?_) | (with_reducible refine Kp.alloc ?_ _) | (with_reducible refine Kp.drew ?_) | (with_reducible refine Kp.drewN ?_ _) | (with_reducible refine Kp.setCell ?_ _ ?_))) <;> (first | omega | (simp; done) | (simp; omega)))⟩⟩
          case measure => simp [intOf]; omega
      ·
        go_wp2_with fail
        refine (l08Stmt_dr g xs ad c _ ((hdr).keep fun q hq => (by (repeat (first | with_reducible exact Kp.refl _ _ | (with_reducible refine Kp.rng ?_ (by assumption) ?_) | (with_reducible refine Kp.below ?_ (by assumption)) | (with_reducible refine Kp.grown ?_ (by assumption) ?_) | (with_reducible refine Kp.alloc ?_ _) | (with_reducible refine Kp.drew ?_) | (with_reducible refine Kp.drewN ?_ _) | (with_reducible refine Kp.setCell ?_ _ ?_))) <;> (first | omega | (simp; done) | (simp; omega))))).mono ?_
        rintro e w9 ⟨s, rfl, hpl, hd9, ob9, or9⟩
        have z9 := ob9.size
        (try simp at z9)
        obtain ⟨op, dst, sa, sb, sc, sn⟩ := s
        unfold stV
        have HPL := Lib.hid hpl
        clear hpl
        go_wp2_with (refine wpList_appSt _ rfl _ _ rfl w.heap.size blk.length cb gb w9.heap.size 0 1 1 blk [⟨op, dst, sa, sb, sc, sn⟩] (by rfl) (by rfl) ((hown).later (by (repeat (first | with_reducible exact Kp.refl _ _ | (with_reducible refine Kp.rng ?_ (by assumption) ?_) | (with_reducible refine Kp.below ?_ (by assumption)) | (with_reducible refine Kp.grown ?_ (by assumption) ?_) | (with_reducible refine Kp.alloc ?_ _) | (with_reducible refine Kp.drew ?_) | (with_reducible refine Kp.drewN ?_ _) | (with_reducible refine Kp.setCell ?_ _ ?_))) <;> (first | omega | (simp; done) | (simp; omega)))) (RdC.six (by go_simp) (by go_simp) (by go_simp) (by go_simp) (by go_simp) (by go_simp)) rfl (by omega) (by first | omega | (simp; done) | (simp; omega)) ?_; intro gn10 cn10 w10 hn10 hb10 hg10 hat10; (try simp at hat10); have z10 := hb10.size; (try simp at z10); have y10 := hg10.size; (try simp at y10); have ge10 := hn10.ge)
        have HE : Hid (((blk ++ [⟨op, dst, sa, sb, sc, sn⟩]) : List St).length = blk.length + 1) := by show _ = _; simp <;> omega
        go_wp2_with fail
        go_roundw
        case rel => exact ⟨k + 1, gn10, cn10, (blk ++ [⟨op, dst, sa, sb, sc, sn⟩]), _, by omega, by go_num, by rw [HE.out], HU.out.append (Ur.one HPL.out), by (rw [HE.out]; have := HBL.out; omega), by rw [HE.out]; exact hn10, ((hd9).keep fun q hq => (by (repeat (first | with_reducible exact Kp.refl _ _ | (with_reducible refine Kp.rng ?_ (by assumption) ?_) | (with_reducible refine Kp.below ?_ (by assumption)) | (with_reducible refine Kp.grown ?_ (by assumption) ?_) | (with_reducible refine Kp.alloc ?_ _) | (with_reducible refine Kp.drew ?_) | (with_reducible refine Kp.drewN ?_ _) | (with_reducible refine Kp.setCell ?_ _ ?_))) <;> (first | omega | (simp; done) | (simp; omega)))), ⟨(by (repeat (first | with_reducible exact Below.refl _ _ | (with_reducible refine bel_next ?_ ?_ (by assumption)) | (with_reducible refine Below.alloc ?_ ?_ _) | (with_reducible refine Below.drew ?_) | (with_reducible refine below_drewN ?_ _) | (with_reducible refine Below.setCell ?_ ?_ _))) <;> (first | omega | (simp; done) | (simp; omega))), fun q hq => Kp.of_lt fun hql => (by (repeat (first | with_reducible exact Kp.refl _ _ | (with_reducible refine Kp.rng ?_ (by assumption) ?_) | (with_reducible refine Kp.below ?_ (by assumption)) | (with_reducible refine Kp.grown ?_ (by assumption) ?_) | (with_reducible refine Kp.alloc ?_ _) | (with_reducible refine Kp.drew ?_) | (with_reducible refine Kp.drewN ?_ _) | (with_reducible refine Kp.setCell ?_ _ ?_))) <;> (first | omega | (simp; done) | (simp; omega)))⟩⟩
        case measure => simp [intOf]; omega
    · go_wp2_with fail
      go_ret
      exact ⟨gb, cb, blk, rfl, ⟨us, HU.out⟩, (by have := HBL.out; omega), hown, hdr, ob0, or0⟩
set_option maxRecDepth 20000 in
set_option maxHeartbeats 8000000 in
theorem block_dr2 (g : Nat) (xs : List Int) (ad : Option Addr) (c : Nat) (n : Int) (w : World) (hd : Dr w g xs ad c) (hn0 : 0 ≤ n) (hn : n ≤ 8) :
    Calls Try.prog 116 #[.pointer (some ⟨g, 0, none⟩), .int .i64 n, .int .i64 0] w fun e w' => ∃ (gb cb : Nat) (blk : List St), e = .returned (.slice (some ⟨gb, 0, none⟩) blk.length cb) ∧ (∃ us, Ur 2 blk us) ∧ (blk.length : Int) ≤ 21 + n ∧
      Own w' w.heap.size 38 6 (some ⟨gb, 0, none⟩) blk.length cb (stCells blk) ∧ Dr w' g xs ad c ∧ Only g w w' := by
  have hgt := hd.gt
  go_enter Try.func116, Try.ntmps116
  go_wp2_with fail
  go_loopw [7, 8] (fun o i wr => ∃ (k gb cb : Nat) (blk us : List St), (k : Int) ≤ n ∧ i = .int .i64 k ∧ o = .slice (some ⟨gb, 0, none⟩) blk.length cb ∧ Ur 2 blk us ∧ blk.length ≤ 21 + k ∧
      Own wr w.heap.size 38 6 (some ⟨gb, 0, none⟩) blk.length cb (stCells blk) ∧ Dr wr g xs ad c ∧ Only g w wr) (fun _ i _ => n.toNat - (intOf i).toNat)
  case atStart =>
    refine ⟨0, w.heap.size, 0, [], [], by omega, rfl, rfl, .nil _, by simp, ?_, hd.keep fun q hq => (by (repeat (first | with_reducible exact Kp.refl _ _ | (with_reducible refine Kp.rng ?_ (by assumption) ?_) | (with_reducible refine Kp.below ?_ (by assumption)) | (with_reducible refine Kp.grown ?_ (by assumption) ?_) | (with_reducible refine Kp.alloc ?_ _) | (with_reducible refine Kp.drew ?_) | (with_reducible refine Kp.drewN ?_ _) | (with_reducible refine Kp.setCell ?_ _ ?_))) <;> (first | omega | (simp; done) | (simp; omega))), ⟨(by (repeat (first | with_reducible exact Below.refl _ _ | (with_reducible refine bel_next ?_ ?_ (by assumption)) | (with_reducible refine Below.alloc ?_ ?_ _) | (with_reducible refine Below.drew ?_) | (with_reducible refine below_drewN ?_ _) | (with_reducible refine Below.setCell ?_ ?_ _))) <;> (first | omega | (simp; done) | (simp; omega))), fun q hq => Kp.of_lt fun hql => (by (repeat (first | with_reducible exact Kp.refl _ _ | (with_reducible refine Kp.rng ?_ (by assumption) ?_) | (with_reducible refine Kp.below ?_ (by assumption)) | (with_reducible refine Kp.grown ?_ (by assumption) ?_) | (with_reducible refine Kp.alloc ?_ _) | (with_reducible refine Kp.drew ?_) | (with_reducible refine Kp.drewN ?_ _) | (with_reducible refine Kp.setCell ?_ _ ?_))) <;> (first | omega | (simp; done) | (simp; omega)))⟩⟩
    exact own_new w 38 6
  case round =>
    obtain ⟨k, gb, cb, blk, us, hk, rfl, rfl, hur, hbl, hown, hdr, ob0, or0⟩ := hrel
    have z0 := ob0.size
    have ge0 := hown.ge
    have HU := Lib.hid hur
    have HBL := Lib.hid hbl
    have hbl100 : blk.length ≤ 100 := by omega
    have hgt0 := hdr.gt
    clear hur hbl
    by_cases hlt : (k : Int) < n
    ·
      by_cases h12 : (blk.length : Int) < 12
      ·
        go_wp2_with fail
        refine (once_dr g xs ad c 8 _ ((hdr).keep fun q hq => (by (repeat (first | with_reducible exact Kp.refl _ _ | (with_reducible refine Kp.rng ?_ (by assumption) ?_) | (with_reducible refine Kp.below ?_ (by assumption)) | (with_reducible refine Kp.grown ?_ (by assumption) ?_) | (with_reducible refine Kp.alloc ?_ _) | (with_reducible refine Kp.drew ?_) | (with_reducible refine Kp.drewN ?_ _) | (with_reducible refine Kp.setCell ?_ _ ?_))) <;> (first | omega | (simp; done) | (simp; omega))))).mono ?_
        rintro e w1 ⟨b, rfl, hd1, ob1, or1⟩
        have z1 := ob1.size
        (try simp at z1)
        cases b
        ·
          go_wp2_with fail
          refine (l08Stmt_dr g xs ad c _ ((hd1).keep fun q hq => (by (repeat (first | with_reducible exact Kp.refl _ _ | (with_reducible refine Kp.rng ?_ (by assumption) ?_) | (with_reducible refine Kp.below ?_ (by assumption)) | (with_reducible refine Kp.grown ?_ (by assumption) ?_) | (with_reducible refine Kp.alloc ?_ _) | (with_reducible refine Kp.drew ?_) | (with_reducible refine Kp.drewN ?_ _) | (with_reducible refine Kp.setCell ?_ _ ?_))) <;> (first | omega | (simp; done) | (simp; omega))))).mono ?_
          rintro e w2 ⟨s, rfl, hpl, hd2, ob2, or2⟩
          have z2 := ob2.size
          (try simp at z2)
          obtain ⟨op, dst, sa, sb, sc, sn⟩ := s
          unfold stV
          have HPL := Lib.hid hpl
          clear hpl
          go_wp2_with (refine wpList_appSt _ rfl _ _ rfl w.heap.size blk.length cb gb w2.heap.size 0 1 1 blk [⟨op, dst, sa, sb, sc, sn⟩] (by rfl) (by rfl) ((hown).later (by (repeat (first | with_reducible exact Kp.refl _ _ | (with_reducible refine Kp.rng ?_ (by assumption) ?_) | (with_reducible refine Kp.below ?_ (by assumption)) | (with_reducible refine Kp.grown ?_ (by assumption) ?_) | (with_reducible refine Kp.alloc ?_ _) | (with_reducible refine Kp.drew ?_) | (with_reducible refine Kp.drewN ?_ _) | (with_reducible refine Kp.setCell ?_ _ ?_))) <;> (first | omega | (simp; done) | (simp; omega)))) (RdC.six (by go_simp) (by go_simp) (by go_simp) (by go_simp) (by go_simp) (by go_simp)) rfl (by omega) (by first | omega | (simp; done) | (simp; omega)) ?_; intro gn3 cn3 w3 hn3 hb3 hg3 hat3; (try simp at hat3); have z3 := hb3.size; (try simp at z3); have y3 := hg3.size; (try simp at y3); have ge3 := hn3.ge)
          have HE : Hid (((blk ++ [⟨op, dst, sa, sb, sc, sn⟩]) : List St).length = blk.length + 1) := by show _ = _; simp <;> omega
          go_wp2_with fail
          go_roundw
          case rel => exact ⟨k + 1, gn3, cn3, (blk ++ [⟨op, dst, sa, sb, sc, sn⟩]), _, by omega, by go_num, by rw [HE.out], HU.out.append (Ur.one HPL.out), by (rw [HE.out]; have := HBL.out; omega), by rw [HE.out]; exact hn3, ((hd2).keep fun q hq => (by (repeat (first | with_reducible exact Kp.refl _ _ | (with_reducible refine Kp.rng ?_ (by assumption) ?_) | (with_reducible refine Kp.below ?_ (by assumption)) | (with_reducible refine Kp.grown ?_ (by assumption) ?_) | (with_reducible refine Kp.alloc ?_ _) | (with_reducible refine Kp.drew ?_) | (with_reducible refine Kp.drewN ?_ _) | (with_reducible refine Kp.setCell ?_ _ ?_))) <;> (first | omega | (simp; done) | (simp; omega)))), ⟨(by (repeat (first | with_reducible exact Below.refl _ _ | (with_reducible refine bel_next ?_ ?_ (by assumption)) | (with_reducible refine Below.alloc ?_ ?_ _) | (with_reducible refine Below.drew ?_) | (with_reducible refine below_drewN ?_ _) | (with_reducible refine Below.setCell ?_ ?_ _))) <;> (first | omega | (simp; done) | (simp; omega))), fun q hq => Kp.of_lt fun hql => (by (repeat (first | with_reducible exact Kp.refl _ _ | (with_reducible refine Kp.rng ?_ (by assumption) ?_) | (with_reducible refine Kp.below ?_ (by assumption)) | (with_reducible refine Kp.grown ?_ (by assumption) ?_) | (with_reducible refine Kp.alloc ?_ _) | (with_reducible refine Kp.drew ?_) | (with_reducible refine Kp.drewN ?_ _) | (with_reducible refine Kp.setCell ?_ _ ?_))) <;> (first | omega | (simp; done) | (simp; omega)))⟩⟩
          case measure => simp [intOf]; omega
        ·
          go_wp2_with fail
          refine (below_dr g xs ad c 3 _ ((hd1).keep fun q hq => (by (repeat (first | with_reducible exact Kp.refl _ _ | (with_reducible refine Kp.rng ?_ (by assumption) ?_) | (with_reducible refine Kp.below ?_ (by assumption)) | (with_reducible refine Kp.grown ?_ (by assumption) ?_) | (with_reducible refine Kp.alloc ?_ _) | (with_reducible refine Kp.drew ?_) | (with_reducible refine Kp.drewN ?_ _) | (with_reducible refine Kp.setCell ?_ _ ?_))) <;> (first | omega | (simp; done) | (simp; omega))))).mono ?_
          rintro e w2 ⟨vn, rfl, vn0, vn1, _, hd2, ob2, or2⟩
          have vn1 := vn1 (by omega)
          have z2 := ob2.size
          (try simp at z2)
          go_wp2_with (refine wpList_appSt _ rfl _ _ rfl w.heap.size blk.length cb gb w2.heap.size 0 1 1 blk [⟨12, 0, 0, 0, 0, 1 + vn⟩] (by rfl) (by rfl) ((hown).later (by (repeat (first | with_reducible exact Kp.refl _ _ | (with_reducible refine Kp.rng ?_ (by assumption) ?_) | (with_reducible refine Kp.below ?_ (by assumption)) | (with_reducible refine Kp.grown ?_ (by assumption) ?_) | (with_reducible refine Kp.alloc ?_ _) | (with_reducible refine Kp.drew ?_) | (with_reducible refine Kp.drewN ?_ _) | (with_reducible refine Kp.setCell ?_ _ ?_))) <;> (first | omega | (simp; done) | (simp; omega)))) (RdC.six (by go_simp) (by go_simp) (by go_simp) (by go_simp) (by go_simp) (by go_simp)) rfl (by omega) (by first | omega | (simp; done) | (simp; omega)) ?_; intro gn3 cn3 w3 hn3 hb3 hg3 hat3; (try simp at hat3); have z3 := hb3.size; (try simp at z3); have y3 := hg3.size; (try simp at y3); have ge3 := hn3.ge)
          go_wp2_with fail
          refine (below_dr g xs ad c 2 _ ((hd2).keep fun q hq => (by (repeat (first | with_reducible exact Kp.refl _ _ | (with_reducible refine Kp.rng ?_ (by assumption) ?_) | (with_reducible refine Kp.below ?_ (by assumption)) | (with_reducible refine Kp.grown ?_ (by assumption) ?_) | (with_reducible refine Kp.alloc ?_ _) | (with_reducible refine Kp.drew ?_) | (with_reducible refine Kp.drewN ?_ _) | (with_reducible refine Kp.setCell ?_ _ ?_))) <;> (first | omega | (simp; done) | (simp; omega))))).mono ?_
          rintro e w4 ⟨vm, rfl, vm0, vm1, _, hd4, ob4, or4⟩
          have vm1 := vm1 (by omega)
          have z4 := ob4.size
          (try simp at z4)
          go_wp2_with fail
          refine (block_dr1 g xs ad c (1 + vm) _ ((hd4).keep fun q hq => (by (repeat (first | with_reducible exact Kp.refl _ _ | (with_reducible refine Kp.rng ?_ (by assumption) ?_) | (with_reducible refine Kp.below ?_ (by assumption)) | (with_reducible refine Kp.grown ?_ (by assumption) ?_) | (with_reducible refine Kp.alloc ?_ _) | (with_reducible refine Kp.drew ?_) | (with_reducible refine Kp.drewN ?_ _) | (with_reducible refine Kp.setCell ?_ _ ?_))) <;> (first | omega | (simp; done) | (simp; omega)))) (by omega) (by omega)).mono ?_
          rintro e w5 ⟨gi, ci, bi, rfl, ⟨ui, huri⟩, hbi, howni, hd5, ob5, or5⟩
          have z5 := ob5.size
          (try simp at z5)
          have gei := howni.ge
          (try simp at gei)
          have HUI := Lib.hid huri
          clear huri
          have HX : True := trivial
          go_wp2_with (first | (refine wpList_appSt _ rfl _ _ rfl w.heap.size (blk.length + 1) cn3 gn3 gi 0 bi.length ci (blk ++ [⟨12, 0, 0, 0, 0, 1 + vn⟩]) bi (by rfl) (by rfl) ((hn3).later (by (repeat (first | with_reducible exact Kp.refl _ _ | (with_reducible refine Kp.rng ?_ (by assumption) ?_) | (with_reducible refine Kp.below ?_ (by assumption)) | (with_reducible refine Kp.grown ?_ (by assumption) ?_) | (with_reducible refine Kp.alloc ?_ _) | (with_reducible refine Kp.drew ?_) | (with_reducible refine Kp.drewN ?_ _) | (with_reducible refine Kp.setCell ?_ _ ?_))) <;> (first | omega | (simp; done) | (simp; omega)))) (howni.later (by (repeat (first | with_reducible exact Kp.refl _ _ | (with_reducible refine Kp.rng ?_ (by assumption) ?_) | (with_reducible refine Kp.below ?_ (by assumption)) | (with_reducible refine Kp.grown ?_ (by assumption) ?_) | (with_reducible refine Kp.alloc ?_ _) | (with_reducible refine Kp.drew ?_) | (with_reducible refine Kp.drewN ?_ _) | (with_reducible refine Kp.setCell ?_ _ ?_))) <;> (first | omega | (simp; done) | (simp; omega)))).rd rfl (by omega) (by first | omega | (simp; done) | (simp; omega)) ?_; intro gn6 cn6 w6 hn6 hb6 hg6 hat6; (try simp at hat6); have z6 := hb6.size; (try simp at z6); have y6 := hg6.size; (try simp at y6); have ge6 := hn6.ge) | (refine wpList_appSt _ rfl _ _ rfl w.heap.size (blk.length + 1 + bi.length) cn6 gn6 w6.heap.size 0 1 1 ((blk ++ [⟨12, 0, 0, 0, 0, 1 + vn⟩]) ++ bi) [⟨13, 0, 0, 0, 0, 0⟩] (by rfl) (by rfl) ((hn6).later (by (repeat (first | with_reducible exact Kp.refl _ _ | (with_reducible refine Kp.rng ?_ (by assumption) ?_) | (with_reducible refine Kp.below ?_ (by assumption)) | (with_reducible refine Kp.grown ?_ (by assumption) ?_) | (with_reducible refine Kp.alloc ?_ _) | (with_reducible refine Kp.drew ?_) | (with_reducible refine Kp.drewN ?_ _) | (with_reducible refine Kp.setCell ?_ _ ?_))) <;> (first | omega | (simp; done) | (simp; omega)))) (RdC.six (by go_simp) (by go_simp) (by go_simp) (by go_simp) (by go_simp) (by go_simp)) rfl (by omega) (by first | omega | (simp; done) | (simp; omega)) ?_; intro gn7 cn7 w7 hn7 hb7 hg7 hat7; (try simp at hat7); have z7 := hb7.size; (try simp at z7); have y7 := hg7.size; (try simp at y7); have ge7 := hn7.ge))
          have HE : Hid (((((blk ++ [⟨12, 0, 0, 0, 0, 1 + vn⟩]) ++ bi) ++ [⟨13, 0, 0, 0, 0, 0⟩]) : List St).length = blk.length + 1 + bi.length + 1) := by show _ = _; simp <;> omega
          go_wp2_with fail
          go_roundw
          case rel => exact ⟨k + 1, gn7, cn7, (((blk ++ [⟨12, 0, 0, 0, 0, 1 + vn⟩]) ++ bi) ++ [⟨13, 0, 0, 0, 0, 0⟩]), _, by omega, by go_num, by rw [HE.out], (by have := HU.out.append (Ur.oneLoop (n := 1 + vn) (by omega) (by omega) HUI.out); simpa [List.append_assoc] using this), by (rw [HE.out]; have := HBL.out; omega), by rw [HE.out]; exact hn7, ((hd5).keep fun q hq => (by (repeat (first | with_reducible exact Kp.refl _ _ | (with_reducible refine Kp.rng ?_ (by assumption) ?_) | (with_reducible refine Kp.below ?_ (by assumption)) | (with_reducible refine Kp.grown ?_ (by assumption) ?_) | (with_reducible refine Kp.alloc ?_ _) | (with_reducible refine Kp.drew ?_) | (with_reducible refine Kp.drewN ?_ _) | (with_reducible refine Kp.setCell ?_ _ ?_))) <;> (first | omega | (simp; done) | (simp; omega)))), ⟨(by (repeat (first | with_reducible exact Below.refl _ _ | (with_reducible refine bel_next ?_ ?_ (by assumption)) | (with_reducible refine Below.alloc ?_ ?_ _) | (with_reducible refine Below.drew ?_) | (with_reducible refine below_drewN ?_ _) | (with_reducible refine Below.setCell ?_ ?_ _))) <;> (first | omega | (simp; done) | (simp; omega))), fun q hq => Kp.of_lt fun hql => (by (repeat (first | with_reducible exact Kp.refl _ _ | (with_reducible refine Kp.rng ?_ (by assumption) ?_) | (with_reducible refine Kp.below ?_ (by assumption)) | (with_reducible refine Kp.grown ?_ (by assumption) ?_) | (with_reducible refine Kp.alloc ?_ _) | (with_reducible refine Kp.drew ?_) | (with_reducible refine Kp.drewN ?_ _) | (with_reducible refine Kp.setCell ?_ _ ?_))) <;> (first | omega | (simp; done) | (simp; omega)))⟩⟩
          case measure => simp [intOf]; omega
      ·
        go_wp2_with fail
        refine (l08Stmt_dr g xs ad c _ ((hdr).keep fun q hq => (by (repeat (first | with_reducible exact Kp.refl _ _ | (with_reducible refine Kp.rng ?_ (by assumption) ?_) | (with_reducible refine Kp.below ?_ (by assumption)) | (with_reducible refine Kp.grown ?_ (by assumption) ?_) | (with_reducible refine Kp.alloc ?_ _) | (with_reducible refine Kp.drew ?_) | (with_reducible refine Kp.drewN ?_ _) | (with_reducible refine Kp.setCell ?_ _ ?_))) <;> (first | omega | (simp; done) | (simp; omega))))).mono ?_
        rintro e w9 ⟨s, rfl, hpl, hd9, ob9, or9⟩
        have z9 := ob9.size
        (try simp at z9)
        obtain ⟨op, dst, sa, sb, sc, sn⟩ := s
        unfold stV
        have HPL := Lib.hid hpl
        clear hpl
        go_wp2_with (refine wpList_appSt _ rfl _ _ rfl w.heap.size blk.length cb gb w9.heap.size 0 1 1 blk [⟨op, dst, sa, sb, sc, sn⟩] (by rfl) (by rfl) ((hown).later (by (repeat (first | with_reducible exact Kp.refl _ _ | (with_reducible refine Kp.rng ?_ (by assumption) ?_) | (with_reducible refine Kp.below ?_ (by assumption)) | (with_reducible refine Kp.grown ?_ (by assumption) ?_) | (with_reducible refine Kp.alloc ?_ _) | (with_reducible refine Kp.drew ?_) | (with_reducible refine Kp.drewN ?_ _) | (with_reducible refine Kp.setCell ?_ _ ?_))) <;> (first | omega | (simp; done) | (simp; omega)))) (RdC.six (by go_simp) (by go_simp) (by go_simp) (by go_simp) (by go_simp) (by go_simp)) rfl (by omega) (by first | omega | (simp; done) | (simp; omega)) ?_; intro gn10 cn10 w10 hn10 hb10 hg10 hat10; (try simp at hat10); have z10 := hb10.size; (try simp at z10); have y10 := hg10.size; (try simp at y10); have ge10 := hn10.ge)
        have HE : Hid (((blk ++ [⟨op, dst, sa, sb, sc, sn⟩]) : List St).length = blk.length + 1) := by show _ = _; simp <;> omega
        go_wp2_with fail
        go_roundw
        case rel => exact ⟨k + 1, gn10, cn10, (blk ++ [⟨op, dst, sa, sb, sc, sn⟩]), _, by omega, by go_num, by rw [HE.out], HU.out.append (Ur.one HPL.out), by (rw [HE.out]; have := HBL.out; omega), by rw [HE.out]; exact hn10, ((hd9).keep fun q hq => (by (repeat (first | with_reducible exact Kp.refl _ _ | (with_reducible refine Kp.rng ?_ (by assumption) ?_) | (with_reducible refine Kp.below ?_ (by assumption)) | (with_reducible refine Kp.grown ?_ (by assumption) ?_) | (with_reducible refine Kp.alloc ?_ _) | (with_reducible refine Kp.drew ?_) | (with_reducible refine Kp.drewN ?_ _) | (with_reducible refine Kp.setCell ?_ _ ?_))) <;> (first | omega | (simp; done) | (simp; omega)))), ⟨(by (repeat (first | with_reducible exact Below.refl _ _ | (with_reducible refine bel_next ?_ ?_ (by assumption)) | (with_reducible refine Below.alloc ?_ ?_ _) | (with_reducible refine Below.drew ?_) | (with_reducible refine below_drewN ?_ _) | (with_reducible refine Below.setCell ?_ ?_ _))) <;> (first | omega | (simp; done) | (simp; omega))), fun q hq => Kp.of_lt fun hql => (by (repeat (first | with_reducible exact Kp.refl _ _ | (with_reducible refine Kp.rng ?_ (by assumption) ?_) | (with_reducible refine Kp.below ?_ (by assumption)) | (with_reducible refine Kp.grown ?_ (by assumption) ?_) | (with_reducible refine Kp.alloc ?_ _) | (with_reducible refine Kp.drew ?_) | (with_reducible refine Kp.drewN ?_ _) | (with_reducible refine Kp.setCell ?_ _ ?_))) <;> (first | omega | (simp; done) | (simp; omega)))⟩⟩
        case measure => simp [intOf]; omega
    · go_wp2_with fail
      go_ret
      exact ⟨gb, cb, blk, rfl, ⟨us, HU.out⟩, (by have := HBL.out; omega), hown, hdr, ob0, or0⟩
/-- What a drawn program is. -/
structure DProg (l : List St) : Prop where
  ur : ∃ us, Ur 2 l us
  len : l.length ≤ 40
  two : ∃ r, l = ⟨2, 0, 0, 0, 0, 0⟩ :: ⟨2, 1, 1, 0, 0, 0⟩ :: r
  out : ∃ r a, l = r ++ [⟨11, 0, a, 0, 0, 0⟩] ∧ 0 ≤ a ∧ a ≤ 3
theorem dprog_of {blk us : List St} {a : Int} (hu : Ur 2 blk us) (hl : (blk.length : Int) ≤ 29) (h0 : 0 ≤ a) (h3 : a < 4) : DProg ([⟨2, 0, 0, 0, 0, 0⟩, ⟨2, 1, 1, 0, 0, 0⟩] ++ blk ++ [⟨11, 0, a, 0, 0, 0⟩]) := by
  have i0 : plain1 ⟨2, 0, 0, 0, 0, 0⟩ := by simp [plain1, stOk, inB]
  have i1 : plain1 ⟨2, 1, 1, 0, 0, 0⟩ := by simp [plain1, stOk, inB]
  have o1 : plain1 ⟨11, 0, a, 0, 0, 0⟩ := by simp [plain1, stOk, inB]; omega
  refine ⟨⟨_, (((Ur.one i0).append (Ur.one i1)).append hu).append (Ur.one o1)⟩, by simp; omega, ⟨blk ++ [⟨11, 0, a, 0, 0, 0⟩], by simp⟩, ⟨[⟨2, 0, 0, 0, 0, 0⟩, ⟨2, 1, 1, 0, 0, 0⟩] ++ blk, a, rfl, h0, by omega⟩⟩
set_option maxRecDepth 20000 in
set_option maxHeartbeats 8000000 in
theorem l08Case_dr (g : Nat) (xs : List Int) (ad : Option Addr) (c : Nat) (w : World) (hd : Dr w g xs ad c) :
    Calls Try.prog 101 #[.pointer (some ⟨g, 0, none⟩)] w fun e w' => ∃ (gp cp : Nat) (l : List St), e = .returned (.slice (some ⟨gp, 0, none⟩) l.length cp) ∧ DProg l ∧
      Own w' w.heap.size 38 6 (some ⟨gp, 0, none⟩) l.length cp (stCells l) ∧ Dr w' g xs ad c ∧ Only g w w' := by
  have hgt := hd.gt
  go_enter Try.func101, Try.ntmps101
  go_wp2_with fail
  obtain ⟨w1, hw1⟩ : ∃ W, W = w.alloc (.cells #[.int .i64 2, .int .i64 0, .int .i64 0, .int .i64 0, .int .i64 0, .int .i64 0, .int .i64 2, .int .i64 1, .int .i64 1, .int .i64 0, .int .i64 0, .int .i64 0] 38) := ⟨_, rfl⟩
  rw [← hw1]
  have hb1 : Below w.heap.size w w1 := by rw [hw1]; exact (Below.refl _ _).alloc (Nat.le_refl _) _
  have x1 : w.heap.size < w1.heap.size := by rw [hw1]; simp
  have hown : Own w1 w.heap.size 38 6 (some ⟨w.heap.size, 0, none⟩) 2 2 (stCells [⟨2, 0, 0, 0, 0, 0⟩, ⟨2, 1, 1, 0, 0, 0⟩]) := by rw [hw1]; exact World.ownsRow_lit w _ 2 (Nat.le_refl _) (by simp [maxLen]) rfl
  clear hw1
  refine (below_dr g xs ad c 9 _ (hd.keep fun q hq => (by (repeat (first | with_reducible exact Kp.refl _ _ | (with_reducible refine Kp.rng ?_ (by assumption) ?_) | (with_reducible refine Kp.below ?_ (by assumption)) | (with_reducible refine Kp.grown ?_ (by assumption) ?_) | (with_reducible refine Kp.alloc ?_ _) | (with_reducible refine Kp.drew ?_) | (with_reducible refine Kp.drewN ?_ _) | (with_reducible refine Kp.setCell ?_ _ ?_))) <;> (first | omega | (simp; done) | (simp; omega))))).mono ?_
  rintro e w2 ⟨vn, rfl, vn0, vn1, _, hd2, ob2, or2⟩
  have vn1 := vn1 (by omega)
  have z2 := ob2.size
  (try simp at z2)
  go_wp2_with fail
  refine (block_dr2 g xs ad c vn _ (hd2.keep fun q hq => (by (repeat (first | with_reducible exact Kp.refl _ _ | (with_reducible refine Kp.rng ?_ (by assumption) ?_) | (with_reducible refine Kp.below ?_ (by assumption)) | (with_reducible refine Kp.grown ?_ (by assumption) ?_) | (with_reducible refine Kp.alloc ?_ _) | (with_reducible refine Kp.drew ?_) | (with_reducible refine Kp.drewN ?_ _) | (with_reducible refine Kp.setCell ?_ _ ?_))) <;> (first | omega | (simp; done) | (simp; omega)))) (by omega) (by omega)).mono ?_
  rintro e w3 ⟨gi, ci, bi, rfl, ⟨ui, huri⟩, hbi, howni, hd3, ob3, or3⟩
  have z3 := ob3.size
  (try simp at z3)
  have gei := howni.ge
  (try simp at gei)
  have HUI := Lib.hid huri
  clear huri
  go_wp2_with (refine wpList_appSt _ rfl _ _ rfl w.heap.size 2 2 w.heap.size gi 0 bi.length ci [⟨2, 0, 0, 0, 0, 0⟩, ⟨2, 1, 1, 0, 0, 0⟩] bi (by rfl) (by rfl) (hown.later (by (repeat (first | with_reducible exact Kp.refl _ _ | (with_reducible refine Kp.rng ?_ (by assumption) ?_) | (with_reducible refine Kp.below ?_ (by assumption)) | (with_reducible refine Kp.grown ?_ (by assumption) ?_) | (with_reducible refine Kp.alloc ?_ _) | (with_reducible refine Kp.drew ?_) | (with_reducible refine Kp.drewN ?_ _) | (with_reducible refine Kp.setCell ?_ _ ?_))) <;> (first | omega | (simp; done) | (simp; omega)))) (howni.later (by (repeat (first | with_reducible exact Kp.refl _ _ | (with_reducible refine Kp.rng ?_ (by assumption) ?_) | (with_reducible refine Kp.below ?_ (by assumption)) | (with_reducible refine Kp.grown ?_ (by assumption) ?_) | (with_reducible refine Kp.alloc ?_ _) | (with_reducible refine Kp.drew ?_) | (with_reducible refine Kp.drewN ?_ _) | (with_reducible refine Kp.setCell ?_ _ ?_))) <;> (first | omega | (simp; done) | (simp; omega)))).rd rfl (by omega) (by first | omega | (simp; done) | (simp; omega)) ?_; intro gn4 cn4 w4 hn4 hb4 hg4 hat4; (try simp at hat4); have z4 := hb4.size; (try simp at z4); have y4 := hg4.size; (try simp at y4); have ge4 := hn4.ge)
  refine (below_dr g xs ad c 4 _ (hd3.keep fun q hq => (by (repeat (first | with_reducible exact Kp.refl _ _ | (with_reducible refine Kp.rng ?_ (by assumption) ?_) | (with_reducible refine Kp.below ?_ (by assumption)) | (with_reducible refine Kp.grown ?_ (by assumption) ?_) | (with_reducible refine Kp.alloc ?_ _) | (with_reducible refine Kp.drew ?_) | (with_reducible refine Kp.drewN ?_ _) | (with_reducible refine Kp.setCell ?_ _ ?_))) <;> (first | omega | (simp; done) | (simp; omega))))).mono ?_
  rintro e w5 ⟨va, rfl, va0, va1, _, hd5, ob5, or5⟩
  have va1 := va1 (by omega)
  have z5 := ob5.size
  (try simp at z5)
  go_wp2_with (refine wpList_appSt _ rfl _ _ rfl w.heap.size (2 + bi.length) cn4 gn4 w5.heap.size 0 1 1 ([⟨2, 0, 0, 0, 0, 0⟩, ⟨2, 1, 1, 0, 0, 0⟩] ++ bi) [⟨11, 0, va, 0, 0, 0⟩] (by rfl) (by rfl) (hn4.later (by (repeat (first | with_reducible exact Kp.refl _ _ | (with_reducible refine Kp.rng ?_ (by assumption) ?_) | (with_reducible refine Kp.below ?_ (by assumption)) | (with_reducible refine Kp.grown ?_ (by assumption) ?_) | (with_reducible refine Kp.alloc ?_ _) | (with_reducible refine Kp.drew ?_) | (with_reducible refine Kp.drewN ?_ _) | (with_reducible refine Kp.setCell ?_ _ ?_))) <;> (first | omega | (simp; done) | (simp; omega)))) (RdC.six (by go_simp) (by go_simp) (by go_simp) (by go_simp) (by go_simp) (by go_simp)) rfl (by omega) (by first | omega | (simp; done) | (simp; omega)) ?_; intro gn6 cn6 w6 hn6 hb6 hg6 hat6; (try simp at hat6); have z6 := hb6.size; (try simp at z6); have y6 := hg6.size; (try simp at y6); have ge6 := hn6.ge)
  have HE : Hid ((([⟨2, 0, 0, 0, 0, 0⟩, ⟨2, 1, 1, 0, 0, 0⟩] ++ bi ++ [⟨11, 0, va, 0, 0, 0⟩]) : List St).length = 2 + bi.length + 1) := by show _ = _; simp; omega
  go_wp2_with fail
  go_ret
  exact ⟨gn6, cn6, [⟨2, 0, 0, 0, 0, 0⟩, ⟨2, 1, 1, 0, 0, 0⟩] ++ bi ++ [⟨11, 0, va, 0, 0, 0⟩], by rw [HE.out]; rfl, dprog_of HUI.out (by omega) va0 va1, by rw [HE.out]; exact hn6, hd5.keep fun q hq => (by (repeat (first | with_reducible exact Kp.refl _ _ | (with_reducible refine Kp.rng ?_ (by assumption) ?_) | (with_reducible refine Kp.below ?_ (by assumption)) | (with_reducible refine Kp.grown ?_ (by assumption) ?_) | (with_reducible refine Kp.alloc ?_ _) | (with_reducible refine Kp.drew ?_) | (with_reducible refine Kp.drewN ?_ _) | (with_reducible refine Kp.setCell ?_ _ ?_))) <;> (first | omega | (simp; done) | (simp; omega))), ⟨(by (repeat (first | with_reducible exact Below.refl _ _ | (with_reducible refine bel_next ?_ ?_ (by assumption)) | (with_reducible refine Below.alloc ?_ ?_ _) | (with_reducible refine Below.drew ?_) | (with_reducible refine below_drewN ?_ _) | (with_reducible refine Below.setCell ?_ ?_ _))) <;> (first | omega | (simp; done) | (simp; omega))), fun q hq => Kp.of_lt fun hql => (by (repeat (first | with_reducible exact Kp.refl _ _ | (with_reducible refine Kp.rng ?_ (by assumption) ?_) | (with_reducible refine Kp.below ?_ (by assumption)) | (with_reducible refine Kp.grown ?_ (by assumption) ?_) | (with_reducible refine Kp.alloc ?_ _) | (with_reducible refine Kp.drew ?_) | (with_reducible refine Kp.drewN ?_ _) | (with_reducible refine Kp.setCell ?_ _ ?_))) <;> (first | omega | (simp; done) | (simp; omega)))⟩⟩
set_option maxHeartbeats 1000000 in
theorem DrawProgram_any (xs : List Int) (ad : Option Addr) (c : Nat) (w : World) (hm : xs.length ≤ 1048576) (hr : RdC w ad (xs.map (Value.int .u8))) (hb : ∀ x ∈ xs, 0 ≤ x ∧ x ≤ 255) :
    Calls Try.prog 66 #[.slice ad xs.length c] w fun e w' => ∃ (gp cp : Nat) (l : List St), e = .returned (.slice (some ⟨gp, 0, none⟩) l.length cp) ∧ DProg l ∧
      Own w' w.heap.size 38 6 (some ⟨gp, 0, none⟩) l.length cp (stCells l) ∧ Below w.heap.size w w' := by
  go_enter Try.func66, Try.ntmps66
  go_wp2_with fail
  refine (l01New_any xs ad c w hm hr hb).mono ?_
  rintro e w1 ⟨g, rfl, hgl, hd1, hb1⟩
  have z1 := hb1.size
  go_wp2_with fail
  refine (l08Case_dr g xs ad c _ hd1).mono ?_
  rintro e w2 ⟨gp, cp, l, rfl, hp, ho, hd2, ob2, or2⟩
  go_wp2_with fail
  go_ret
  exact ⟨gp, cp, l, rfl, hp, ho.lo (by omega), (by (repeat (first | with_reducible exact Below.refl _ _ | (with_reducible refine bel_next ?_ ?_ (by assumption)) | (with_reducible refine Below.alloc ?_ ?_ _) | (with_reducible refine Below.drew ?_) | (with_reducible refine below_drewN ?_ _) | (with_reducible refine Below.setCell ?_ ?_ _))) <;> (first | omega | (simp; done) | (simp; omega)))⟩

end Go.Proofs.Ytfeffofoofmgcaa

/- DrRun -/
namespace Go.Proofs.Ytfeffofoofmgcaa
open Go.RowKit
set_option linter.unusedVariables false
set_option linter.unusedSimpArgs false

theorem el_ints : El 54 29 1 24 (.slice none 0 0) := by
  obtain ⟨i0, hi, hz0, hz1, hz2⟩ := info_parts info_ints
  exact ⟨⟨i0, Try.underlying54, hi, hz0, hz1, hz2⟩, rfl, by omega⟩
set_option maxHeartbeats 2000000 in
theorem l03List_dr (g : Nat) (xs : List Int) (ad : Option Addr) (c : Nat) (w : World) (hd : Dr w g xs ad c) :
    Calls Try.prog 118 #[.pointer (some ⟨g, 0, none⟩), .int .i64 16, .int .i64 4] w fun e w' => ∃ (gr cr : Nat) (vs : List Int), e = .returned (.slice (some ⟨gr, 0, none⟩) 4 cr) ∧ vs.length = 4 ∧ allB vs 0 15 = true ∧
      Own w' w.heap.size 3 1 (some ⟨gr, 0, none⟩) 4 cr (I64 vs) ∧ Dr w' g xs ad c ∧ Only g w w' := by
  have hgt := hd.gt
  go_enter Try.func118, Try.ntmps118
  go_wp2_with fail
  go_loopw [7, 8] (fun v i wr => ∃ (k gr cr : Nat) (vs : List Int), k ≤ 4 ∧ i = .int .i64 k ∧ v = .slice (some ⟨gr, 0, none⟩) k cr ∧ vs.length = k ∧ allB vs 0 15 = true ∧
      Own wr w.heap.size 3 1 (some ⟨gr, 0, none⟩) k cr (I64 vs) ∧ Dr wr g xs ad c ∧ Only g w wr) (fun _ i _ => 4 - (intOf i).toNat)
  case atStart => exact ⟨0, w.heap.size, 0, [], Nat.zero_le _, rfl, rfl, rfl, rfl, own_new w 3 1, hd.keep fun q hq => (by (repeat (first | with_reducible exact Kp.refl _ _ | (with_reducible refine Kp.rng ?_ (by assumption) ?_) | (with_reducible refine Kp.below ?_ (by assumption)) | (with_reducible refine Kp.grown ?_ (by assumption) ?_) | (with_reducible refine Kp.alloc ?_ _) | (with_reducible refine Kp.drew ?_) | (with_reducible refine Kp.drewN ?_ _) | (with_reducible refine Kp.setCell ?_ _ ?_))) <;> (first | omega | (simp; done) | (simp; omega))), ⟨(by (repeat (first | with_reducible exact Below.refl _ _ | (with_reducible refine bel_next ?_ ?_ (by assumption)) | (with_reducible refine Below.alloc ?_ ?_ _) | (with_reducible refine Below.drew ?_) | (with_reducible refine below_drewN ?_ _) | (with_reducible refine Below.setCell ?_ ?_ _))) <;> (first | omega | (simp; done) | (simp; omega))), fun q hq => Kp.of_lt fun hql => (by (repeat (first | with_reducible exact Kp.refl _ _ | (with_reducible refine Kp.rng ?_ (by assumption) ?_) | (with_reducible refine Kp.below ?_ (by assumption)) | (with_reducible refine Kp.grown ?_ (by assumption) ?_) | (with_reducible refine Kp.alloc ?_ _) | (with_reducible refine Kp.drew ?_) | (with_reducible refine Kp.drewN ?_ _) | (with_reducible refine Kp.setCell ?_ _ ?_))) <;> (first | omega | (simp; done) | (simp; omega)))⟩⟩
  case round =>
    obtain ⟨k, gr, cr, vs, hk, rfl, rfl, hl, hv, hown, hdr, ob0, or0⟩ := hrel
    have z0 := ob0.size
    have ge0 := hown.ge
    have hgt0 := hdr.gt
    have HL := Lib.hid hl
    have HV := Lib.hid hv
    clear hl hv
    by_cases hlt : (k : Int) < 4
    · go_wp2_with fail
      refine (below_dr g xs ad c 16 _ hdr).mono ?_
      rintro e w2 ⟨v, rfl, v0, v1, _, hd2, ob2, or2⟩
      have v1 := v1 (by omega)
      have z2 := ob2.size
      go_wp2_with (refine wpList_push _ rfl _ _ rfl w.heap.size gr k cr vs v w2.heap.size 1 (by rfl) (by rfl) (hown.later (by (repeat (first | with_reducible exact Kp.refl _ _ | (with_reducible refine Kp.rng ?_ (by assumption) ?_) | (with_reducible refine Kp.below ?_ (by assumption)) | (with_reducible refine Kp.grown ?_ (by assumption) ?_) | (with_reducible refine Kp.alloc ?_ _) | (with_reducible refine Kp.drew ?_) | (with_reducible refine Kp.drewN ?_ _) | (with_reducible refine Kp.setCell ?_ _ ?_))) <;> (first | omega | (simp; done) | (simp; omega)))) (by go_simp) (by omega) (by first | omega | (simp; done) | (simp; omega)) ?_; intro g3 c3 w3 ho3 hb3 hg3 hat3; (try simp at hat3); have z3 := hb3.size; (try simp at z3); have y3 := hg3.size; (try simp at y3); have ge3 := ho3.ge)
      go_roundw
      case rel => exact ⟨k + 1, g3, c3, vs ++ [v], by omega, by go_num, rfl, by simp [HL.out], (by have := HV.out; simp only [allB_iff] at this ⊢; intro x hx; rcases List.mem_append.1 hx with hx | hx; exact this x hx; simp at hx; omega), ho3, hd2.keep fun q hq => (by (repeat (first | with_reducible exact Kp.refl _ _ | (with_reducible refine Kp.rng ?_ (by assumption) ?_) | (with_reducible refine Kp.below ?_ (by assumption)) | (with_reducible refine Kp.grown ?_ (by assumption) ?_) | (with_reducible refine Kp.alloc ?_ _) | (with_reducible refine Kp.drew ?_) | (with_reducible refine Kp.drewN ?_ _) | (with_reducible refine Kp.setCell ?_ _ ?_))) <;> (first | omega | (simp; done) | (simp; omega))), ⟨(by (repeat (first | with_reducible exact Below.refl _ _ | (with_reducible refine bel_next ?_ ?_ (by assumption)) | (with_reducible refine Below.alloc ?_ ?_ _) | (with_reducible refine Below.drew ?_) | (with_reducible refine below_drewN ?_ _) | (with_reducible refine Below.setCell ?_ ?_ _))) <;> (first | omega | (simp; done) | (simp; omega))), fun q hq => Kp.of_lt fun hql => (by (repeat (first | with_reducible exact Kp.refl _ _ | (with_reducible refine Kp.rng ?_ (by assumption) ?_) | (with_reducible refine Kp.below ?_ (by assumption)) | (with_reducible refine Kp.grown ?_ (by assumption) ?_) | (with_reducible refine Kp.alloc ?_ _) | (with_reducible refine Kp.drew ?_) | (with_reducible refine Kp.drewN ?_ _) | (with_reducible refine Kp.setCell ?_ _ ?_))) <;> (first | omega | (simp; done) | (simp; omega)))⟩⟩
      case measure => simp [intOf]; omega
    · obtain rfl : k = 4 := by omega
      have H := Lib.hid (And.intro hown (And.intro hdr (show Only g w wr from ⟨ob0, or0⟩)))
      clear hown hdr ob0 or0
      go_wp2_with fail
      go_ret
      exact ⟨gr, cr, rfl, vs, HL.out, HV.out, H.out.1, H.out.2.1, H.out.2.2⟩
structure RowAt (w0 w : World) (ga : Nat) (r : Rw) : Prop where
  rd : RdC w r.ad (I64 r.xs)
  blk : ∃ b, r.ad = some ⟨b, 0, none⟩ ∧ w0.heap.size ≤ b ∧ b < w.heap.size ∧ b ≠ ga
  len : r.xs.length = 4
  ok : allB r.xs 0 15 = true
set_option maxHeartbeats 2000000 in
theorem l12Inputs_dr (g : Nat) (xs : List Int) (ad : Option Addr) (c : Nat) (w : World) (hd : Dr w g xs ad c) :
    Calls Try.prog 107 #[.pointer (some ⟨g, 0, none⟩)] w fun e w' => ∃ (ga ca : Nat) (rs : List Rw), e = .returned (.slice (some ⟨ga, 0, none⟩) 5 ca) ∧ rs.length = 5 ∧ inputsOk (rs.map Rw.xs) = true ∧
      RdR w' (some ⟨ga, 0, none⟩) rs ∧ ga < w'.heap.size ∧ Dr w' g xs ad c ∧ Only g w w' := by
  have hgt := hd.gt
  go_enter Try.func107, Try.ntmps107
  go_wp2_with fail
  go_loopw [3, 4] (fun v i wr => ∃ (k ga ca : Nat) (rs : List Rw), k ≤ 5 ∧ i = .int .i64 k ∧ v = .slice (some ⟨ga, 0, none⟩) k ca ∧ rs.length = k ∧ (∀ r ∈ rs, RowAt w wr ga r) ∧
      Own wr w.heap.size 29 1 (some ⟨ga, 0, none⟩) k ca (rs.map Rw.val) ∧ Dr wr g xs ad c ∧ Only g w wr) (fun _ i _ => 5 - (intOf i).toNat)
  case atStart => exact ⟨0, w.heap.size, 0, [], Nat.zero_le _, rfl, rfl, rfl, (by intro r hr; cases hr), own_new w 29 1, hd.keep fun q hq => (by (repeat (first | with_reducible exact Kp.refl _ _ | (with_reducible refine Kp.rng ?_ (by assumption) ?_) | (with_reducible refine Kp.below ?_ (by assumption)) | (with_reducible refine Kp.grown ?_ (by assumption) ?_) | (with_reducible refine Kp.alloc ?_ _) | (with_reducible refine Kp.drew ?_) | (with_reducible refine Kp.drewN ?_ _) | (with_reducible refine Kp.setCell ?_ _ ?_))) <;> (first | omega | (simp; done) | (simp; omega))), ⟨(by (repeat (first | with_reducible exact Below.refl _ _ | (with_reducible refine bel_next ?_ ?_ (by assumption)) | (with_reducible refine Below.alloc ?_ ?_ _) | (with_reducible refine Below.drew ?_) | (with_reducible refine below_drewN ?_ _) | (with_reducible refine Below.setCell ?_ ?_ _))) <;> (first | omega | (simp; done) | (simp; omega))), fun q hq => Kp.of_lt fun hql => (by (repeat (first | with_reducible exact Kp.refl _ _ | (with_reducible refine Kp.rng ?_ (by assumption) ?_) | (with_reducible refine Kp.below ?_ (by assumption)) | (with_reducible refine Kp.grown ?_ (by assumption) ?_) | (with_reducible refine Kp.alloc ?_ _) | (with_reducible refine Kp.drew ?_) | (with_reducible refine Kp.drewN ?_ _) | (with_reducible refine Kp.setCell ?_ _ ?_))) <;> (first | omega | (simp; done) | (simp; omega)))⟩⟩
  case round =>
    obtain ⟨k, ga, ca, rs, hk, rfl, rfl, hl, hv, hown, hdr, ob0, or0⟩ := hrel
    have z0 := ob0.size
    have ge0 := hown.ge
    have hgt0 := hdr.gt
    have HL := Lib.hid hl
    have HV := Lib.hid hv
    clear hl hv
    by_cases hlt : (k : Int) < 5
    · go_wp2_with fail
      refine (l03List_dr g xs ad c _ hdr).mono ?_
      rintro e w2 ⟨gr, cr, vs, rfl, hvl, hvo, ho2, hd2, ob2, or2⟩
      have z2 := ob2.size
      have ge2 := ho2.ge
      have HVL := Lib.hid hvl
      have HVO := Lib.hid hvo
      have HO2 := Lib.hid ho2
      clear hvl hvo ho2
      go_wp2_with (refine wpList_appm _ rfl el_ints _ _ rfl w.heap.size ga k ca (rs.map Rw.val) [.slice (some ⟨gr, 0, none⟩) 4 cr] (some ⟨w2.heap.size, 0, none⟩) 1 1 (by rfl) (by rfl) (hown.later (by (repeat (first | with_reducible exact Kp.refl _ _ | (with_reducible refine Kp.rng ?_ (by assumption) ?_) | (with_reducible refine Kp.below ?_ (by assumption)) | (with_reducible refine Kp.grown ?_ (by assumption) ?_) | (with_reducible refine Kp.alloc ?_ _) | (with_reducible refine Kp.drew ?_) | (with_reducible refine Kp.drewN ?_ _) | (with_reducible refine Kp.setCell ?_ _ ?_))) <;> (first | omega | (simp; done) | (simp; omega)))) rfl (.inr ⟨w2.heap.size, 0, rfl, fun j hj => by (have : j = 0 := (by simpa using hj)); subst this; go_simp⟩) (by intro u hu; simp at hu; subst hu; rfl) (by intro h; cases h) (by omega) (by omega) (by first | omega | (simp; done) | (simp; omega)) ?_; intro g3 c3 w3 ho3 hb3 hg3 hat3; (try simp at hat3); have z3 := hb3.size; (try simp at z3); have y3 := hg3.size; (try simp at y3); have ge3 := ho3.ge)
      have HROWS : Hid (∀ r ∈ rs ++ [⟨some ⟨gr, 0, none⟩, cr, vs⟩], RowAt w w3 g3 r) := by
        intro r hr
        rcases List.mem_append.1 hr with hr | hr
        · obtain ⟨h1, ⟨b, h2, h3, h4, h5⟩, h6, h7⟩ := HV.out r hr
          refine ⟨h1.keep fun b' off e => ?_, ⟨b, h2, h3, by omega, by omega⟩, h6, h7⟩
          rw [h2] at e
          obtain rfl : b = b' := by simpa using congrArg Addr.block (Option.some.inj e)
          exact (by (repeat (first | with_reducible exact Kp.refl _ _ | (with_reducible refine Kp.rng ?_ (by assumption) ?_) | (with_reducible refine Kp.below ?_ (by assumption)) | (with_reducible refine Kp.grown ?_ (by assumption) ?_) | (with_reducible refine Kp.alloc ?_ _) | (with_reducible refine Kp.drew ?_) | (with_reducible refine Kp.drewN ?_ _) | (with_reducible refine Kp.setCell ?_ _ ?_))) <;> (first | omega | (simp; done) | (simp; omega)))
        · simp at hr; subst hr
          exact ⟨(HO2.out.later (by (repeat (first | with_reducible exact Kp.refl _ _ | (with_reducible refine Kp.rng ?_ (by assumption) ?_) | (with_reducible refine Kp.below ?_ (by assumption)) | (with_reducible refine Kp.grown ?_ (by assumption) ?_) | (with_reducible refine Kp.alloc ?_ _) | (with_reducible refine Kp.drew ?_) | (with_reducible refine Kp.drewN ?_ _) | (with_reducible refine Kp.setCell ?_ _ ?_))) <;> (first | omega | (simp; done) | (simp; omega)))).rd, ⟨gr, rfl, by omega, by omega, by omega⟩, HVL.out, HVO.out⟩
      go_wp2_with fail
      go_roundw
      case rel => exact ⟨k + 1, g3, c3, rs ++ [⟨some ⟨gr, 0, none⟩, cr, vs⟩], by omega, by go_num, rfl, by simp [HL.out], HROWS.out, (by have := ho3; simpa [Rw.val, HVL.out] using this), hd2.keep fun q hq => (by (repeat (first | with_reducible exact Kp.refl _ _ | (with_reducible refine Kp.rng ?_ (by assumption) ?_) | (with_reducible refine Kp.below ?_ (by assumption)) | (with_reducible refine Kp.grown ?_ (by assumption) ?_) | (with_reducible refine Kp.alloc ?_ _) | (with_reducible refine Kp.drew ?_) | (with_reducible refine Kp.drewN ?_ _) | (with_reducible refine Kp.setCell ?_ _ ?_))) <;> (first | omega | (simp; done) | (simp; omega))), ⟨(by (repeat (first | with_reducible exact Below.refl _ _ | (with_reducible refine bel_next ?_ ?_ (by assumption)) | (with_reducible refine Below.alloc ?_ ?_ _) | (with_reducible refine Below.drew ?_) | (with_reducible refine below_drewN ?_ _) | (with_reducible refine Below.setCell ?_ ?_ _))) <;> (first | omega | (simp; done) | (simp; omega))), fun q hq => Kp.of_lt fun hql => (by (repeat (first | with_reducible exact Kp.refl _ _ | (with_reducible refine Kp.rng ?_ (by assumption) ?_) | (with_reducible refine Kp.below ?_ (by assumption)) | (with_reducible refine Kp.grown ?_ (by assumption) ?_) | (with_reducible refine Kp.alloc ?_ _) | (with_reducible refine Kp.drew ?_) | (with_reducible refine Kp.drewN ?_ _) | (with_reducible refine Kp.setCell ?_ _ ?_))) <;> (first | omega | (simp; done) | (simp; omega)))⟩⟩
      case measure => simp [intOf]; omega
    · obtain rfl : k = 5 := by omega
      have H := Lib.hid (And.intro hown (And.intro hdr (show Only g w wr from ⟨ob0, or0⟩)))
      clear hown hdr ob0 or0
      go_wp2_with fail
      go_ret
      refine ⟨ga, ⟨ca, rfl⟩, rs, HL.out, ?_, ⟨H.out.1.rd, fun r hr => (HV.out r hr).rd⟩, ge0.2, H.out.2.1, H.out.2.2⟩
      simp only [inputsOk, rowsOk, Bool.and_eq_true, List.all_eq_true, List.mem_map]
      refine ⟨?_, by simp [HL.out]⟩
      rintro _ ⟨r, hr, rfl⟩
      have := HV.out r hr
      simp [rowOk, this.len, this.ok]
set_option maxHeartbeats 1000000 in
theorem DrawRun_any (xs : List Int) (ad : Option Addr) (c : Nat) (w : World) (hm : xs.length ≤ 1048576) (hr : RdC w ad (xs.map (Value.int .u8))) (hb : ∀ x ∈ xs, 0 ≤ x ∧ x ≤ 255) :
    Calls Try.prog 73 #[.slice ad xs.length c] w fun e w' => ∃ (gp cp ga ca : Nat) (l : List St) (rs : List Rw), e = .returned (.tuple #[.slice (some ⟨gp, 0, none⟩) l.length cp, .slice (some ⟨ga, 0, none⟩) 5 ca]) ∧ DProg l ∧
      Own w' w.heap.size 38 6 (some ⟨gp, 0, none⟩) l.length cp (stCells l) ∧ rs.length = 5 ∧ inputsOk (rs.map Rw.xs) = true ∧ RdR w' (some ⟨ga, 0, none⟩) rs ∧ Below w.heap.size w w' := by
  go_enter Try.func73, Try.ntmps73
  go_wp2_with fail
  refine (l01New_any xs ad c w hm hr hb).mono ?_
  rintro e w1 ⟨g, rfl, hgl, hd1, hb1⟩
  have z1 := hb1.size
  have hg1 := hd1.gt
  go_wp2_with fail
  refine (l08Case_dr g xs ad c _ hd1).mono ?_
  rintro e w2 ⟨gp, cp, l, rfl, hp, ho, hd2, ob2, or2⟩
  have z2 := ob2.size
  have ge2 := ho.ge
  go_wp2_with fail
  refine (l12Inputs_dr g xs ad c _ hd2).mono ?_
  rintro e w3 ⟨ga, ca, rs, rfl, hl5, hin, hrd, _, hd3, ob3, or3⟩
  have z3 := ob3.size
  go_wp2_with fail
  go_ret2
  exact ⟨gp, cp, ga, ca, l, rs, rfl, hp, (ho.lo (by omega)).later (by (repeat (first | with_reducible exact Kp.refl _ _ | (with_reducible refine Kp.rng ?_ (by assumption) ?_) | (with_reducible refine Kp.below ?_ (by assumption)) | (with_reducible refine Kp.grown ?_ (by assumption) ?_) | (with_reducible refine Kp.alloc ?_ _) | (with_reducible refine Kp.drew ?_) | (with_reducible refine Kp.drewN ?_ _) | (with_reducible refine Kp.setCell ?_ _ ?_))) <;> (first | omega | (simp; done) | (simp; omega))), hl5, hin, hrd, (by (repeat (first | with_reducible exact Below.refl _ _ | (with_reducible refine bel_next ?_ ?_ (by assumption)) | (with_reducible refine Below.alloc ?_ ?_ _) | (with_reducible refine Below.drew ?_) | (with_reducible refine below_drewN ?_ _) | (with_reducible refine Below.setCell ?_ ?_ _))) <;> (first | omega | (simp; done) | (simp; omega)))⟩

end Go.Proofs.Ytfeffofoofmgcaa

/- ProgFacts -/
namespace Go.Proofs.Ytfeffofoofmgcaa
open Go.RowKit
set_option linter.unusedVariables false
set_option linter.unusedSimpArgs false

theorem Own.cap {w : World} {lo e size : Nat} {g n cap : Nat} {cs : List Value} (h : Own w lo e size (some ⟨g, 0, none⟩) n cap cs) : n ≤ cap := by
  rcases h.2 with ⟨he, _⟩ | ⟨g', cap', cur, he, _, _, hnc, _⟩
  · simp at he
  · simp only [Value.slice.injEq] at he
    obtain ⟨_, _, rfl⟩ := he
    exact hnc
theorem Own.capMax {w : World} {lo e size : Nat} {g n cap : Nat} {cs : List Value} (h : Own w lo e size (some ⟨g, 0, none⟩) n cap cs) : cap ≤ maxLen := by
  rcases h.2 with ⟨he, _⟩ | ⟨g', cap', cur, he, _, _, _, hcm, _⟩
  · simp at he
  · simp only [Value.slice.injEq] at he
    obtain ⟨_, _, rfl⟩ := he
    exact hcm
set_option maxHeartbeats 2000000 in
theorem iWritesOf_any (s : St) (w : World) :
    Calls Try.prog 69 #[stV s] w fun e w' => e = .returned (.int .i64 (writesOf s)) ∧ Below w.heap.size w w' := by
  obtain ⟨op, dst, a, b, c, n⟩ := s
  cases hs : stOk ⟨op, dst, a, b, c, n⟩
  · have HS := Lib.hid hs
    have HF : Hid (writesOf ⟨op, dst, a, b, c, n⟩ = -1) := by show _ = _; simp [writesOf, hs]
    clear hs
    unfold stV
    go_enter Try.func69, Try.ntmps69
    go_wp2_with (go_at_call 70; refine (iStmtOk_any ⟨op, dst, a, b, c, n⟩ _).mono ?_; rintro e w1 ⟨rfl, hb⟩; rw [HS.out]; have k1_0 := bel_keeps hb (b := w.heap.size) (o := 0) (v := .int .i64 op) (by go_simp); have k1_1 := bel_keeps hb (b := w.heap.size) (o := 1) (v := .int .i64 dst) (by go_simp))
    go_ret
    exact ⟨ret_int HF.out.symm, (by (repeat (first | with_reducible exact Below.refl _ _ | (with_reducible refine bel_next ?_ ?_ (by assumption)) | (with_reducible refine Below.alloc ?_ ?_ _) | (with_reducible refine Below.drew ?_) | (with_reducible refine below_drewN ?_ _) | (with_reducible refine Below.setCell ?_ ?_ _))) <;> (first | omega | (simp; done) | (simp; omega)))⟩
  · have HS := Lib.hid hs
    by_cases h : op ≤ 10
    · have HF : Hid (writesOf ⟨op, dst, a, b, c, n⟩ = dst) := by show _ = _; simp [writesOf, hs, h]
      clear hs
      unfold stV
      go_enter Try.func69, Try.ntmps69
      go_wp2_with (go_at_call 70; refine (iStmtOk_any ⟨op, dst, a, b, c, n⟩ _).mono ?_; rintro e w1 ⟨rfl, hb⟩; rw [HS.out]; have k1_0 := bel_keeps hb (b := w.heap.size) (o := 0) (v := .int .i64 op) (by go_simp); have k1_1 := bel_keeps hb (b := w.heap.size) (o := 1) (v := .int .i64 dst) (by go_simp))
      go_ret
      exact ⟨ret_int HF.out.symm, (by (repeat (first | with_reducible exact Below.refl _ _ | (with_reducible refine bel_next ?_ ?_ (by assumption)) | (with_reducible refine Below.alloc ?_ ?_ _) | (with_reducible refine Below.drew ?_) | (with_reducible refine below_drewN ?_ _) | (with_reducible refine Below.setCell ?_ ?_ _))) <;> (first | omega | (simp; done) | (simp; omega)))⟩
    · have HF : Hid (writesOf ⟨op, dst, a, b, c, n⟩ = -1) := by show _ = _; simp [writesOf, hs, h]
      clear hs
      unfold stV
      go_enter Try.func69, Try.ntmps69
      go_wp2_with (go_at_call 70; refine (iStmtOk_any ⟨op, dst, a, b, c, n⟩ _).mono ?_; rintro e w1 ⟨rfl, hb⟩; rw [HS.out]; have k1_0 := bel_keeps hb (b := w.heap.size) (o := 0) (v := .int .i64 op) (by go_simp); have k1_1 := bel_keeps hb (b := w.heap.size) (o := 1) (v := .int .i64 dst) (by go_simp))
      go_ret
      exact ⟨ret_int HF.out.symm, (by (repeat (first | with_reducible exact Below.refl _ _ | (with_reducible refine bel_next ?_ ?_ (by assumption)) | (with_reducible refine Below.alloc ?_ ?_ _) | (with_reducible refine Below.drew ?_) | (with_reducible refine below_drewN ?_ _) | (with_reducible refine Below.setCell ?_ ?_ _))) <;> (first | omega | (simp; done) | (simp; omega)))⟩
theorem parties_two {l : List St} (h : progOk l = true) {r : List St} (hl : l = ⟨2, 0, 0, 0, 0, 0⟩ :: ⟨2, 1, 1, 0, 0, 0⟩ :: r) : 2 ≤ partiesOf l := by
  have hst : ∀ s ∈ l, stOk s = true := fun s hs => by
    obtain ⟨k, hk⟩ := List.getElem?_of_mem hs
    exact stok_at h hk
  have mono : ∀ (r : List St) (n : Int), 2 ≤ n → 2 ≤ r.foldl stepP n := by
    intro r
    induction r with
    | nil => intro n hn; exact hn
    | cons s r ih =>
      intro n hn
      refine ih _ ?_
      unfold stepP
      repeat' split
      all_goals omega
  simp only [partiesOf, h, if_true]
  rw [hl]
  exact mono r _ (by simp [stepP])

end Go.Proofs.Ytfeffofoofmgcaa

/- UnrFacts -/
namespace Go.Proofs.Ytfeffofoofmgcaa
open Go.RowKit
set_option linter.unusedVariables false
set_option linter.unusedSimpArgs false

theorem ur_mem {b : Nat} {xs us : List St} (h : Ur b xs us) : ∀ s ∈ xs, s.op ≠ 12 → s.op ≠ 13 → s ∈ us := by
  induction h with
  | nil b => intro s hs; cases hs
  | plain b s r u h1 h2 h3 h4 ih =>
    intro x hx h12 h13
    rcases List.mem_cons.1 hx with rfl | hx
    · exact List.mem_cons_self ..
    · exact List.mem_cons_of_mem _ (ih x hx h12 h13)
  | loop b l e body r v u h1 h2 h3 h4 h5 h6 ih5 ih6 =>
    intro x hx h12 h13
    rcases List.mem_cons.1 hx with rfl | hx
    · exact absurd h3 h12
    rcases List.mem_append.1 hx with hx | hx
    · refine List.mem_append_left _ ?_
      have hn := (stOk_loop h1 h3).1
      have hv := ih5 x hx h12 h13
      simp only [repS, List.mem_flatten]
      exact ⟨v, by simp [List.mem_replicate]; omega, hv⟩
    rcases List.mem_cons.1 hx with rfl | hx
    · exact absurd h4 h13
    · exact List.mem_append_right _ (ih6 x hx h12 h13)
theorem foldM_mono (xs : List St) : ∀ p : Int × Int, p.2 ≤ (xs.foldl stepM p).2 := by
  induction xs with
  | nil => intro p; exact Int.le_refl _
  | cons s r ih =>
    intro p
    refine Int.le_trans ?_ (ih _)
    simp only [stepM]
    split <;> omega
theorem depth_bd {l : List St} (h : progOk l = true) : 0 ≤ loopDepth l ∧ loopDepth l ≤ 3 := by
  have := foldM_bd h l.length
  rw [List.take_length] at this
  simp only [loopDepth, h, if_true]
  exact this.2.2
theorem depth_zero {l : List St} (h : progOk l = true) (h0 : loopDepth l = 0) : ∀ s ∈ l, s.op ≠ 12 := by
  intro s hs h12
  obtain ⟨k, hk⟩ := List.getElem?_of_mem hs
  have e := foldM_bd h k
  have e2 := foldM_mono (l.drop (k + 1)) ((l.take (k + 1)).foldl stepM (0, 0))
  rw [← List.foldl_append, List.take_append_drop, foldM_snoc hk] at e2
  simp only [loopDepth, h, if_true] at h0
  rw [h0] at e2
  simp only [stepM, stepD, h12, if_true] at e2
  split at e2 <;> omega
theorem cnt_pos {us : List St} {s : St} (h : s ∈ us) (h11 : s.op = 11) : 1 ≤ cntOut us := by
  have : s ∈ us.filter (fun s => s.op == 11) := List.mem_filter.2 ⟨h, by simp [h11]⟩
  exact List.length_pos_of_mem this
/-- The one unrolled list of a valid program, and what the contracts ask of it. -/
theorem unr_one {l : List St} (h : progOk l = true) : ∃ U : List St, Ur 3 l U ∧ IsSize l (U.length : Int) ∧ (U.length ≤ 120 → IsUnr l U true) ∧ (120 < U.length → IsUnr l [] false) := by
  obtain ⟨hl, U, hu⟩ := ur_of_progOk h
  have hb : U.length ≤ 20480 := Nat.le_trans (ur_bound hu) (Nat.le_trans (Nat.mul_le_mul (Nat.le_refl _) hl) (by decide))
  exact ⟨U, hu, .inr ⟨h, hl, U, hu, rfl, hb⟩, fun h1 => .inr (.inr ⟨rfl, h, hl, hu, h1⟩), fun h1 => .inr (.inl ⟨rfl, rfl, h, hl, U, hu, h1, hb⟩)⟩
set_option maxHeartbeats 1000000 in
theorem sameStmts_same (xs : List St) (ad ad' : Option Addr) (c c' : Nat) (w : World) (hm : xs.length ≤ 1048576) (hr : RdC w ad (stCells xs)) (hr' : RdC w ad' (stCells xs)) :
    Calls Try.prog 72 #[.slice ad xs.length c, .slice ad' xs.length c'] w fun e w' => e = .returned (.bool true) ∧ ∃ n, w' = w.drewN n := by
  go_enter Try.func72, Try.ntmps72
  go_wp2_with fail
  go_loopw [5] (fun i wr => ∃ k : Nat, k ≤ xs.length ∧ i = .int .i64 k ∧ ∃ m, wr = w.drewN m) (fun i _ => xs.length - (intOf i).toNat)
  case atStart => exact ⟨0, Nat.zero_le _, rfl, 0, rfl⟩
  case round =>
    obtain ⟨k, hk, rfl, m, hw⟩ := hrel
    have HW := Lib.hid hw
    by_cases hlt : k < xs.length
    · obtain ⟨b, off, op, dst, a, b_, c_, n, rfl, hbl, hx, c0, c1, c2, c3, c4, c5⟩ := (show RdC wr ad (stCells xs) from by rw [hw]; exact hr.drewN m).st k hlt
      obtain ⟨b', off', op', dst', a', b_', c_', n', rfl, hbl', hx', c0', c1', c2', c3', c4', c5'⟩ := (show RdC wr ad' (stCells xs) from by rw [hw]; exact hr'.drewN m).st k hlt
      rw [hx] at hx'
      simp only [Option.some.injEq, St.mk.injEq] at hx'
      obtain ⟨rfl, rfl, rfl, rfl, rfl, rfl⟩ := hx'
      have hi : (k : Int) < (xs.length : Int) := by omega
      clear hr hr' hx hw
      go_wp2_with fail
      go_quiet (fail)
      go_wp2_with fail
      go_roundw
      case rel => exact ⟨k + 1, by omega, by go_num, m + nq, by rw [HW.out, World.drewN_drewN]⟩
      case measure => simp [intOf]; omega
    · clear hw
      go_wp2_with fail
      go_ret
      exact ⟨rfl, m, HW.out⟩
theorem sameStmts_eq (xs ys : List St) (he : xs = ys) (ad ad' : Option Addr) (c c' : Nat) (w : World) (hm : xs.length ≤ 1048576) (hr : RdC w ad (stCells xs)) (hr' : RdC w ad' (stCells ys)) :
    Calls Try.prog 72 #[.slice ad xs.length c, .slice ad' ys.length c'] w fun e w' => e = .returned (.bool true) ∧ ∃ n, w' = w.drewN n := by
  subst he
  exact sameStmts_same xs ad ad' c c' w hm hr hr'

end Go.Proofs.Ytfeffofoofmgcaa

/- FlowFacts -/
namespace Go.Proofs.Ytfeffofoofmgcaa
open Go.RowKit
set_option linter.unusedVariables false
set_option linter.unusedSimpArgs false

def b32 (x : Int) : Prop := 0 ≤ x ∧ x ≤ 31
theorem or_all : ∀ x : Fin 32, ∀ y : Fin 32, (inB (bits .or .i64 (x.val : Int) (y.val : Int)) 0 31 && ((bits .or .i64 (x.val : Int) (y.val : Int) == 0) == (((x.val : Int) == 0) && ((y.val : Int) == 0)))) = true := by decide +kernel
theorem an_all : ∀ x : Fin 32, ((bits .andNot .i64 (x.val : Int) (x.val : Int) == 0) && (bits .andNot .i64 (x.val : Int) (bits .or .i64 (x.val : Int) 4) == 0) && inB (bits .or .i64 (x.val : Int) 4) 0 31 && (bits .andNot .i64 (x.val : Int) 0 == (x.val : Int))) = true := by decide +kernel
theorem or_b {x y : Int} (hx : b32 x) (hy : b32 y) : b32 (bits .or .i64 x y) ∧ (bits .or .i64 x y = 0 ↔ x = 0 ∧ y = 0) := by
  obtain ⟨a, rfl⟩ := Int.eq_ofNat_of_zero_le hx.1
  obtain ⟨b, rfl⟩ := Int.eq_ofNat_of_zero_le hy.1
  have h := or_all ⟨a, by have := hx.2; omega⟩ ⟨b, by have := hy.2; omega⟩
  simp only [Bool.and_eq_true, beq_iff_eq] at h
  refine ⟨inB_iff.1 h.1, ?_⟩
  have h2 := h.2
  rw [Bool.eq_iff_iff] at h2
  simpa using h2
theorem an_b {x : Int} (hx : b32 x) : bits .andNot .i64 x x = 0 ∧ bits .andNot .i64 x (bits .or .i64 x 4) = 0 ∧ b32 (bits .or .i64 x 4) ∧ bits .andNot .i64 x 0 = x := by
  obtain ⟨a, rfl⟩ := Int.eq_ofNat_of_zero_le hx.1
  have h := an_all ⟨a, by have := hx.2; omega⟩
  simp only [Bool.and_eq_true, beq_iff_eq] at h
  exact ⟨h.1.1.1, h.1.1.2, inB_iff.1 h.1.2, h.2⟩
theorem getD_b {rs : List Int} (h : ∀ x ∈ rs, b32 x) (i : Nat) : b32 (rs.getD i 0) := by
  by_cases hi : i < rs.length
  · simp only [List.getD, List.getElem?_eq_getElem hi, Option.getD_some]; exact h _ (List.getElem_mem hi)
  · simp only [List.getD, List.getElem?_eq_none (by omega : rs.length ≤ i), Option.getD_none]; exact ⟨by omega, by omega⟩
theorem deps_b {rs : List Int} (h : ∀ x ∈ rs, b32 x) (l : List Int) : b32 (depsOf rs l) := by
  have : ∀ (l : List Int) (n : Int), b32 n → b32 (l.foldl (fun n r => bits .or .i64 n (rs.getD r.toNat 0)) n) := by
    intro l
    induction l with
    | nil => intro n hn; exact hn
    | cons r l ih => intro n hn; exact ih _ (or_b hn (getD_b h _)).1
  exact this l 0 ⟨by omega, by omega⟩
theorem pow_b {a : Int} (h0 : 0 ≤ a) (h4 : a ≤ 4) : b32 (2 ^ a.toNat) := by
  obtain ⟨n, rfl⟩ := Int.eq_ofNat_of_zero_le h0
  have : n = 0 ∨ n = 1 ∨ n = 2 ∨ n = 3 ∨ n = 4 := by omega
  rcases this with rfl | rfl | rfl | rfl | rfl <;> exact ⟨by decide +kernel, by decide +kernel⟩
theorem flow_b {p : List Int × List Int} (h1 : ∀ x ∈ p.1, b32 x) (h2 : ∀ x ∈ p.2, b32 x) (s : St) : (∀ x ∈ flowRegs p.1 s, b32 x) ∧ (∀ x ∈ flowOuts p.1 p.2 s, b32 x) := by
  constructor
  · intro x hx
    unfold flowRegs at hx
    split at hx
    case isFalse => exact h1 x hx
    case isTrue hb =>
      split at hx
      · exact h1 x hx
      · split at hx
        · rename_i h2'
          rcases List.mem_or_eq_of_mem_set hx with hx | rfl
          · exact h1 x hx
          · have hst : stOk s = true := by simp [flowB, plainB] at hb; exact hb.1.1
            have := stok_input hst h2'
            exact pow_b this.1 this.2
        · rcases List.mem_or_eq_of_mem_set hx with hx | rfl
          · exact h1 x hx
          · exact deps_b h1 _
  · intro x hx
    unfold flowOuts at hx
    split at hx
    · rcases List.mem_append.1 hx with hx | hx
      · exact h2 x hx
      · simp at hx; subst hx; exact deps_b h1 _
    · exact h2 x hx
theorem flowF_all (us : List St) : (∀ s ∈ us, stOk s = true ∧ s.op ≠ 12 ∧ s.op ≠ 13) → (∀ x ∈ (flowF us).2, b32 x) ∧ (flowF us).2.length = cntOut us := by
  have : ∀ (us : List St) (p : List Int × List Int), (∀ s ∈ us, stOk s = true ∧ s.op ≠ 12 ∧ s.op ≠ 13) → (∀ x ∈ p.1, b32 x) → (∀ x ∈ p.2, b32 x) → p.1.length = 8 →
      (∀ x ∈ (us.foldl (fun p s => (flowRegs p.1 s, flowOuts p.1 p.2 s)) p).2, b32 x) ∧ (us.foldl (fun p s => (flowRegs p.1 s, flowOuts p.1 p.2 s)) p).2.length = p.2.length + cntOut us := by
    intro us
    induction us with
    | nil => intro p _ _ h2 _; exact ⟨h2, by simp [cntOut]⟩
    | cons s r ih =>
      intro p hp h1 h2 h8
      have hs := hp s (List.mem_cons_self ..)
      have hh := stok_regs hs.1
      have hB : flowB s p.1 = true := by simp [flowB, plainB, hs.1, h8]; omega
      have hf := flow_b h1 h2 s
      obtain ⟨q1, q2⟩ := ih (flowRegs p.1 s, flowOuts p.1 p.2 s) (fun x hx => hp x (List.mem_cons_of_mem _ hx)) hf.1 hf.2 (by simp [flowRegs_len, h8])
      refine ⟨q1, ?_⟩
      rw [List.foldl_cons, q2]
      simp only [flowOuts, hB, Bool.true_and, cntOut, List.filter_cons]
      by_cases h11 : s.op = 11 <;> simp [h11] <;> omega
  intro h
  have := this us (List.replicate 8 0, []) h (fun x hx => by rw [List.eq_of_mem_replicate hx]; exact ⟨by omega, by omega⟩) (fun x hx => by cases hx) (by simp)
  exact ⟨this.1, by simpa [flowF] using this.2⟩
def allOr (d : List Int) : Int := d.foldl (fun n x => bits .or .i64 n x) 0
theorem allOr_snoc {d : List Int} {k : Nat} (hk : k < d.length) : allOr (d.take (k + 1)) = bits .or .i64 (allOr (d.take k)) d[k] := by
  unfold allOr; rw [List.take_succ_eq_append_getElem hk, List.foldl_append]; rfl
theorem allOr_zero {d : List Int} (h : ∀ x ∈ d, b32 x) : b32 (allOr d) ∧ (allOr d = 0 ↔ ∀ x ∈ d, x = 0) := by
  have : ∀ (d : List Int) (n : Int), b32 n → (∀ x ∈ d, b32 x) → b32 (d.foldl (fun n x => bits .or .i64 n x) n) ∧ (d.foldl (fun n x => bits .or .i64 n x) n = 0 ↔ n = 0 ∧ ∀ x ∈ d, x = 0) := by
    intro d
    induction d with
    | nil => intro n hn _; exact ⟨hn, by simp⟩
    | cons x r ih =>
      intro n hn h
      have ho := or_b hn (h x (List.mem_cons_self ..))
      obtain ⟨q1, q2⟩ := ih _ ho.1 (fun y hy => h y (List.mem_cons_of_mem _ hy))
      refine ⟨q1, ?_⟩
      rw [List.foldl_cons, q2, ho.2]
      simp [and_assoc]
  have := this d 0 ⟨by omega, by omega⟩ h
  exact ⟨this.1, by simpa [allOr] using this.2⟩
theorem flows_self {d : List Int} (h : ∀ x ∈ d, b32 x) : flowOkB d d true = true := by
  simp only [flowOkB, bne_self_eq_false, Bool.not_false, Bool.and_self, Bool.true_and, flowAll, List.all_eq_true]
  rintro ⟨x, y⟩ hxy
  obtain ⟨i, hi⟩ := List.getElem?_of_mem hxy
  rw [List.getElem?_zip_eq_some] at hi
  have e : x = y := Option.some.inj (hi.1.symm.trans hi.2)
  subst e
  have hb := h x (List.mem_of_getElem? hi.1)
  simp [allowB, (an_b hb).1]; exact hb.1
theorem flows_more {d : List Int} (h : ∀ x ∈ d, b32 x) : flowOkB d (d.map fun x => bits .or .i64 x 4) true = true := by
  have hl : (!((d.length : Int) != ((d.map fun x => bits .or .i64 x 4).length : Int))) = true := by simp
  simp only [flowOkB, hl, Bool.true_and, flowAll, List.all_eq_true]
  rintro ⟨x, y⟩ hxy
  obtain ⟨i, hi⟩ := List.getElem?_of_mem hxy
  rw [List.getElem?_zip_eq_some] at hi
  have hi2 : (d.map fun x => bits .or .i64 x 4)[i]? = some y := hi.2
  rw [List.getElem?_map, hi.1] at hi2
  have e : bits .or .i64 x 4 = y := Option.some.inj hi2
  subst e
  have hb := h x (List.mem_of_getElem? hi.1)
  simp [allowB, (an_b hb).2.1]; exact (an_b hb).2.2.1.1
theorem flows_none {d : List Int} (h : ∀ x ∈ d, b32 x) : flowOkB d (List.replicate d.length 0) true = (allOr d == 0) := by
  have hl : (!((d.length : Int) != ((List.replicate d.length (0 : Int)).length : Int))) = true := by simp
  simp only [flowOkB, hl, Bool.true_and]
  rw [Bool.eq_iff_iff]
  simp only [flowAll, List.all_eq_true, beq_iff_eq]
  rw [(allOr_zero h).2]
  constructor
  · intro ha x hx
    obtain ⟨i, hi⟩ := List.getElem?_of_mem hx
    obtain ⟨hlt, _⟩ := List.getElem?_eq_some_iff.1 hi
    have := ha (x, 0) (List.mem_of_getElem? (i := i) (by rw [List.getElem?_zip_eq_some]; exact ⟨hi, by simp [hlt]⟩))
    simpa [allowB, (an_b (h x hx)).2.2.2] using this
  · rintro ha ⟨x, y⟩ hxy
    obtain ⟨i, hi⟩ := List.getElem?_of_mem hxy
    rw [List.getElem?_zip_eq_some] at hi
    have hx := ha x (List.mem_of_getElem? hi.1)
    have hy : y = 0 := List.eq_of_mem_replicate (List.mem_of_getElem? hi.2)
    subst hx; subst hy
    decide +kernel

end Go.Proofs.Ytfeffofoofmgcaa

/- RunFacts -/
namespace Go.Proofs.Ytfeffofoofmgcaa
open Go.RowKit
set_option linter.unusedVariables false
set_option linter.unusedSimpArgs false

theorem oper_all : ∀ a : Fin 16, ∀ b : Fin 16, ∀ o : Fin 7, inB (operF ((o.val : Int) + 3) (a.val : Int) (b.val : Int)) 0 15 = true := by decide +kernel
theorem oper_b {op a b : Int} (h3 : 3 ≤ op) (h9 : op ≤ 9) (ha : 0 ≤ a ∧ a ≤ 15) (hb : 0 ≤ b ∧ b ≤ 15) : 0 ≤ operateF op a b ∧ operateF op a b ≤ 15 := by
  obtain ⟨x, rfl⟩ := Int.eq_ofNat_of_zero_le ha.1
  obtain ⟨y, rfl⟩ := Int.eq_ofNat_of_zero_le hb.1
  obtain ⟨z, hz⟩ := Int.eq_ofNat_of_zero_le (show 0 ≤ op - 3 by omega)
  have h := oper_all ⟨x, by omega⟩ ⟨y, by omega⟩ ⟨z, by omega⟩
  have e : op = (z : Int) + 3 := by omega
  have i1 : inB (x : Int) 0 15 = true := inB_iff.2 ha
  have i2 : inB (y : Int) 0 15 = true := inB_iff.2 hb
  unfold operateF
  rw [i1, i2, e]
  exact inB_iff.1 h
theorem step_val {rs os : List Int} {s : St} {rr : List Rw} (h : stateOk rs os = true) (hs : stOk s = true) (hop : s.op ≤ 10) (hin : inputsOk (rr.map Rw.xs) = true) : 0 ≤ stepVal s rs (rr.map Rw.xs) ∧ stepVal s rs (rr.map Rw.xs) ≤ 15 := by
  obtain ⟨op, dst, a, b, c, n⟩ := s
  have hh := stok_regs hs
  simp only at hh hop
  have ra := state_regs h hh.2.2.2.2.1 hh.2.2.2.2.2.1
  have rb := state_regs h hh.2.2.2.2.2.2.1 hh.2.2.2.2.2.2.2.1
  have rc := state_regs h hh.2.2.2.2.2.2.2.2.1 hh.2.2.2.2.2.2.2.2.2
  unfold stepVal
  simp only
  by_cases p1 : op = 1
  · rw [if_pos p1]; subst p1; simp [stOk, inB] at hs; omega
  rw [if_neg p1]
  by_cases p2 : op = 2
  · rw [if_pos p2]; subst p2
    simp [stOk, inB] at hs
    have h5 := inputs_len hin
    have hal : a.toNat < rr.length := by omega
    obtain ⟨q1, q2⟩ := inputs_row hin hal
    have hn : n.toNat < rr[a.toNat].xs.length := by omega
    rw [show (rr.map Rw.xs).getD a.toNat [] = rr[a.toNat].xs by simp [List.getD, List.getElem?_eq_getElem hal]]
    rw [show rr[a.toNat].xs.getD n.toNat 0 = rr[a.toNat].xs[n.toNat] by simp [List.getD, List.getElem?_eq_getElem hn]]
    exact allB_iff.1 q2 _ (List.getElem_mem hn)
  rw [if_neg p2]
  by_cases p10 : op = 10
  · rw [if_pos p10]; split <;> assumption
  rw [if_neg p10]
  exact oper_b (by omega) (by omega) ra rb
theorem step_ok {rs os : List Int} {s : St} {rr : List Rw} (h : stateOk rs os = true) (hs : stOk s = true) (hop : s.op ≤ 11) (hin : inputsOk (rr.map Rw.xs) = true) :
    stateOk (stepRegs rs os s (rr.map Rw.xs)) (stepOuts rs os s (rr.map Rw.xs)) = true ∧ (stepOuts rs os s (rr.map Rw.xs)).length = os.length + if s.op = 11 then 1 else 0 := by
  have hB : stepB s rs os (rr.map Rw.xs) = true := by simp [stepB, h, plainB, hs, hop, hin]
  have hh := stok_regs hs
  have hst := h
  simp only [stateOk, Bool.and_eq_true] at h
  by_cases h11 : s.op = 11
  · have e1 : stepRegs rs os s (rr.map Rw.xs) = rs := by simp [stepRegs, h11]
    have e2 : stepOuts rs os s (rr.map Rw.xs) = os ++ [rgd rs s.a] := by simp [stepOuts, hB, h11]
    rw [e1, e2]
    refine ⟨?_, by simp [h11]⟩
    simp only [stateOk, Bool.and_eq_true]
    refine ⟨h.1, allB_iff.2 fun x hx => ?_⟩
    rcases List.mem_append.1 hx with hx | hx
    · exact allB_iff.1 h.2 x hx
    · simp at hx; subst hx; exact state_regs hst hh.2.2.2.2.1 hh.2.2.2.2.2.1
  · have e1 : stepRegs rs os s (rr.map Rw.xs) = rs.set s.dst.toNat (stepVal s rs (rr.map Rw.xs)) := by simp [stepRegs, hB, h11]
    have e2 : stepOuts rs os s (rr.map Rw.xs) = os := by simp [stepOuts, h11]
    rw [e1, e2]
    refine ⟨?_, by simp [h11]⟩
    simp only [stateOk, Bool.and_eq_true, List.length_set]
    refine ⟨⟨h.1.1, allB_iff.2 fun x hx => ?_⟩, h.2⟩
    rcases List.mem_or_eq_of_mem_set hx with hx | rfl
    · exact allB_iff.1 h.1.2 x hx
    · exact step_val hst hs (by omega) hin
theorem runF_all {rr : List Rw} (hin : inputsOk (rr.map Rw.xs) = true) (us : List St) (h : ∀ s ∈ us, stOk s = true ∧ s.op ≠ 12 ∧ s.op ≠ 13) : stateOk (runF us (rr.map Rw.xs)).1 (runF us (rr.map Rw.xs)).2 = true ∧ (runF us (rr.map Rw.xs)).2.length = cntOut us := by
  have : ∀ (us : List St) (p : List Int × List Int), (∀ s ∈ us, stOk s = true ∧ s.op ≠ 12 ∧ s.op ≠ 13) → stateOk p.1 p.2 = true →
      stateOk (us.foldl (fun p s => (stepRegs p.1 p.2 s (rr.map Rw.xs), stepOuts p.1 p.2 s (rr.map Rw.xs))) p).1 (us.foldl (fun p s => (stepRegs p.1 p.2 s (rr.map Rw.xs), stepOuts p.1 p.2 s (rr.map Rw.xs))) p).2 = true ∧
      (us.foldl (fun p s => (stepRegs p.1 p.2 s (rr.map Rw.xs), stepOuts p.1 p.2 s (rr.map Rw.xs))) p).2.length = p.2.length + cntOut us := by
    intro us
    induction us with
    | nil => intro p _ h2; exact ⟨h2, by simp [cntOut]⟩
    | cons s r ih =>
      intro p hp h2
      have hs := hp s (List.mem_cons_self ..)
      have hh := stok_regs hs.1
      have hop : s.op ≤ 11 := by omega
      have hk := step_ok h2 hs.1 hop hin
      obtain ⟨q1, q2⟩ := ih (stepRegs p.1 p.2 s (rr.map Rw.xs), stepOuts p.1 p.2 s (rr.map Rw.xs)) (fun x hx => hp x (List.mem_cons_of_mem _ hx)) hk.1
      refine ⟨q1, ?_⟩
      rw [List.foldl_cons, q2]
      simp only [hk.2, cntOut, List.filter_cons]
      by_cases h11 : s.op = 11 <;> simp [h11] <;> omega
  have := this us (List.replicate 8 0, []) h (by decide)
  exact ⟨this.1, by simpa [runF] using this.2⟩
set_option maxHeartbeats 1000000 in
theorem sameInts_same (xs : List Int) (n1 n2 : Nat) (h1 : xs.length = n1) (h2 : xs.length = n2) (ad ad' : Option Addr) (c c' : Nat) (w : World) (hm : xs.length ≤ 1048576) (hr : RdC w ad (I64 xs)) (hr' : RdC w ad' (I64 xs)) :
    Calls Try.prog 79 #[.slice ad n1 c, .slice ad' n2 c'] w fun e w' => e = .returned (.bool true) ∧ ∃ n, w' = w.drewN n := by
  subst h1; subst h2
  go_enter Try.func79, Try.ntmps79
  go_wp2_with fail
  go_loopw [5] (fun i wr => ∃ k : Nat, k ≤ xs.length ∧ i = .int .i64 k ∧ ∃ m, wr = w.drewN m) (fun i _ => xs.length - (intOf i).toNat)
  case atStart => exact ⟨0, Nat.zero_le _, rfl, 0, rfl⟩
  case round =>
    obtain ⟨k, hk, rfl, m, hw⟩ := hrel
    have HW := Lib.hid hw
    by_cases hlt : k < xs.length
    · obtain ⟨b, off, rfl, hc⟩ := (show RdC wr ad (I64 xs) from by rw [hw]; exact hr.drewN m).at k hlt
      obtain ⟨b', off', rfl, hc'⟩ := (show RdC wr ad' (I64 xs) from by rw [hw]; exact hr'.drewN m).at k hlt
      have q1 := hc k hlt
      have q2 := hc' k hlt
      generalize xs[k] = x at q1 q2
      have hi : (k : Int) < (xs.length : Int) := by omega
      clear hr hr' hc hc' hw
      go_wp2_with fail
      go_quiet (fail)
      go_wp2_with fail
      go_roundw
      case rel => exact ⟨k + 1, by omega, by go_num, m + nq, by rw [HW.out, World.drewN_drewN]⟩
      case measure => simp [intOf]; omega
    · clear hw
      go_wp2_with fail
      go_ret
      exact ⟨rfl, m, HW.out⟩

end Go.Proofs.Ytfeffofoofmgcaa

/- StepFacts -/
namespace Go.Proofs.Ytfeffofoofmgcaa
open Go.RowKit
set_option linter.unusedVariables false
set_option linter.unusedSimpArgs false
set_option maxHeartbeats 2000000 in
theorem sWritesOf_any (s : St) (w : World) :
    Calls Try.prog 76 #[stV s] w fun e w' => e = .returned (.int .i64 (writesOf s)) ∧ Below w.heap.size w w' := by
  obtain ⟨op, dst, a, b, c, n⟩ := s
  cases hs : stOk ⟨op, dst, a, b, c, n⟩
  · have HS := Lib.hid hs
    have HF : Hid (writesOf ⟨op, dst, a, b, c, n⟩ = -1) := by show _ = _; simp [writesOf, hs]
    clear hs
    unfold stV
    go_enter Try.func76, Try.ntmps76
    go_wp2_with (go_at_call 88; refine (sStmtOk_any ⟨op, dst, a, b, c, n⟩ _).mono ?_; rintro e w1 ⟨rfl, hb⟩; rw [HS.out]; have k1_0 := bel_keeps hb (b := w.heap.size) (o := 0) (v := .int .i64 op) (by go_simp); have k1_1 := bel_keeps hb (b := w.heap.size) (o := 1) (v := .int .i64 dst) (by go_simp))
    go_ret
    exact ⟨ret_int HF.out.symm, (by (repeat (first | with_reducible exact Below.refl _ _ | (with_reducible refine bel_next ?_ ?_ (by assumption)) | (with_reducible refine Below.alloc ?_ ?_ _) | (with_reducible refine Below.drew ?_) | (with_reducible refine below_drewN ?_ _) | (with_reducible refine Below.setCell ?_ ?_ _))) <;> (first | omega | (simp; done) | (simp; omega)))⟩
  · have HS := Lib.hid hs
    by_cases h : op ≤ 10
    · have HF : Hid (writesOf ⟨op, dst, a, b, c, n⟩ = dst) := by show _ = _; simp [writesOf, hs, h]
      clear hs
      unfold stV
      go_enter Try.func76, Try.ntmps76
      go_wp2_with (go_at_call 88; refine (sStmtOk_any ⟨op, dst, a, b, c, n⟩ _).mono ?_; rintro e w1 ⟨rfl, hb⟩; rw [HS.out]; have k1_0 := bel_keeps hb (b := w.heap.size) (o := 0) (v := .int .i64 op) (by go_simp); have k1_1 := bel_keeps hb (b := w.heap.size) (o := 1) (v := .int .i64 dst) (by go_simp))
      go_ret
      exact ⟨ret_int HF.out.symm, (by (repeat (first | with_reducible exact Below.refl _ _ | (with_reducible refine bel_next ?_ ?_ (by assumption)) | (with_reducible refine Below.alloc ?_ ?_ _) | (with_reducible refine Below.drew ?_) | (with_reducible refine below_drewN ?_ _) | (with_reducible refine Below.setCell ?_ ?_ _))) <;> (first | omega | (simp; done) | (simp; omega)))⟩
    · have HF : Hid (writesOf ⟨op, dst, a, b, c, n⟩ = -1) := by show _ = _; simp [writesOf, hs, h]
      clear hs
      unfold stV
      go_enter Try.func76, Try.ntmps76
      go_wp2_with (go_at_call 88; refine (sStmtOk_any ⟨op, dst, a, b, c, n⟩ _).mono ?_; rintro e w1 ⟨rfl, hb⟩; rw [HS.out]; have k1_0 := bel_keeps hb (b := w.heap.size) (o := 0) (v := .int .i64 op) (by go_simp); have k1_1 := bel_keeps hb (b := w.heap.size) (o := 1) (v := .int .i64 dst) (by go_simp))
      go_ret
      exact ⟨ret_int HF.out.symm, (by (repeat (first | with_reducible exact Below.refl _ _ | (with_reducible refine bel_next ?_ ?_ (by assumption)) | (with_reducible refine Below.alloc ?_ ?_ _) | (with_reducible refine Below.drew ?_) | (with_reducible refine below_drewN ?_ _) | (with_reducible refine Below.setCell ?_ ?_ _))) <;> (first | omega | (simp; done) | (simp; omega)))⟩

theorem step_keeps {rs os : List Int} {s : St} {xss : List (List Int)} {k : Nat} (hk : (k : Int) ≠ writesOf s) : (stepRegs rs os s xss).getD k 0 = rs.getD k 0 := by
  unfold stepRegs
  split
  case isFalse => rfl
  case isTrue h =>
    simp only [stepB, Bool.and_eq_true] at h
    split
    · rfl
    · have hp : plainB s = true := h.1.2
      simp only [plainB, Bool.and_eq_true, decide_eq_true_eq] at hp
      have hh := stok_regs hp.1
      have hw : writesOf s = s.dst := by simp [writesOf, hp.1]; omega
      have : s.dst.toNat ≠ k := by omega
      simp [List.getD, List.getElem?_set_ne this]
theorem step_state {rs os : List Int} {s : St} {rr : List Rw} (h : stateOk rs os = true) (hin : inputsOk (rr.map Rw.xs) = true) : stateOk (stepRegs rs os s (rr.map Rw.xs)) (stepOuts rs os s (rr.map Rw.xs)) = true := by
  cases hB : stepB s rs os (rr.map Rw.xs)
  · simp [stepRegs, stepOuts, hB, h]
  · simp only [stepB, Bool.and_eq_true] at hB
    have hp := hB.1.2
    simp only [plainB, Bool.and_eq_true, decide_eq_true_eq] at hp
    exact (step_ok h hp.1 hp.2 hin).1

end Go.Proofs.Ytfeffofoofmgcaa

/- NonFacts -/
namespace Go.Proofs.Ytfeffofoofmgcaa
open Go.RowKit
set_option linter.unusedVariables false
set_option linter.unusedSimpArgs false

def bp (pt : Nat) (x : Int) : Int := bits .and .i64 (x / 2 ^ pt) 1
theorem bp_all : ∀ pt : Fin 3, ∀ x : Fin 32, ∀ y : Fin 32, (bp pt.val (bits .or .i64 (x.val : Int) (y.val : Int)) == 0) = ((bp pt.val (x.val : Int) == 0) && (bp pt.val (y.val : Int) == 0)) := by decide +kernel
theorem bp_pow : ∀ pt : Fin 3, ∀ a : Fin 5, bp pt.val (2 ^ a.val) = 0 → a.val ≠ pt.val := by decide +kernel
theorem bp_or {pt : Nat} (hp : pt < 3) {x y : Int} (hx : b32 x) (hy : b32 y) : bp pt (bits .or .i64 x y) = 0 ↔ bp pt x = 0 ∧ bp pt y = 0 := by
  obtain ⟨a, rfl⟩ := Int.eq_ofNat_of_zero_le hx.1
  obtain ⟨b, rfl⟩ := Int.eq_ofNat_of_zero_le hy.1
  have h := bp_all ⟨pt, hp⟩ ⟨a, by have := hx.2; omega⟩ ⟨b, by have := hy.2; omega⟩
  rw [Bool.eq_iff_iff] at h
  simpa using h
theorem deps_bit {pt : Nat} (hp : pt < 3) {f : List Int} (hf : ∀ x ∈ f, b32 x) (l : List Int) (h : bp pt (depsOf f l) = 0) : ∀ r ∈ l, bp pt (f.getD r.toNat 0) = 0 := by
  have : ∀ (l : List Int) (n : Int), b32 n → bp pt (l.foldl (fun n r => bits .or .i64 n (f.getD r.toNat 0)) n) = 0 → bp pt n = 0 ∧ ∀ r ∈ l, bp pt (f.getD r.toNat 0) = 0 := by
    intro l
    induction l with
    | nil => intro n _ h; exact ⟨h, fun r hr => by cases hr⟩
    | cons r l ih =>
      intro n hn h
      obtain ⟨q1, q2⟩ := ih _ (or_b hn (getD_b hf _)).1 h
      obtain ⟨q3, q4⟩ := (bp_or hp hn (getD_b hf _)).1 q1
      exact ⟨q3, fun x hx => by rcases List.mem_cons.1 hx with rfl | hx; exact q4; exact q2 x hx⟩
  exact (this l 0 ⟨by omega, by omega⟩ h).2
/-- Two runs and their dependencies, step by step. -/
structure Sim (pt : Nat) (f fo r1 o1 r2 o2 : List Int) : Prop where
  fb : ∀ x ∈ f, b32 x
  fl : f.length = 8
  s1 : stateOk r1 o1 = true
  s2 : stateOk r2 o2 = true
  regs : ∀ i, bp pt (f.getD i 0) = 0 → r1.getD i 0 = r2.getD i 0
  l1 : o1.length = fo.length
  l2 : o2.length = fo.length
  outs : ∀ i, bp pt (fo.getD i 0) = 0 → o1.getD i 0 = o2.getD i 0
theorem getD_snoc (l : List Int) (x : Int) (i : Nat) : (l ++ [x]).getD i 0 = if i = l.length then x else l.getD i 0 := by
  by_cases h : i < l.length
  · rw [if_neg (by omega)]; simp [List.getD, List.getElem?_append_left h]
  · by_cases h2 : i = l.length
    · rw [if_pos h2]; subst h2; simp [List.getD]
    · rw [if_neg h2]; simp [List.getD, List.getElem?_eq_none (show (l ++ [x]).length ≤ i by simp; omega), List.getElem?_eq_none (show l.length ≤ i by omega)]
theorem getD_set (l : List Int) (k : Nat) (x : Int) (i : Nat) (hk : k < l.length) : (l.set k x).getD i 0 = if i = k then x else l.getD i 0 := by
  by_cases h : i = k
  · subst h; simp [List.getD, hk]
  · rw [if_neg h]; simp [List.getD, List.getElem?_set_ne (Ne.symm h)]
theorem sim_step {pt : Nat} (hp : pt < 3) {f fo r1 o1 r2 o2 : List Int} {rr1 rr2 : List Rw} (h : Sim pt f fo r1 o1 r2 o2) {s : St} (hs : stOk s = true) (hop : s.op ≤ 11)
    (i1 : inputsOk (rr1.map Rw.xs) = true) (i2 : inputsOk (rr2.map Rw.xs) = true) (ha : ∀ j, j ≠ pt → (rr1.map Rw.xs).getD j [] = (rr2.map Rw.xs).getD j []) :
    Sim pt (flowRegs f s) (flowOuts f fo s) (stepRegs r1 o1 s (rr1.map Rw.xs)) (stepOuts r1 o1 s (rr1.map Rw.xs)) (stepRegs r2 o2 s (rr2.map Rw.xs)) (stepOuts r2 o2 s (rr2.map Rw.xs)) := by
  have hB : flowB s f = true := by simp [flowB, plainB, hs, hop, h.fl]
  have hB1 : stepB s r1 o1 (rr1.map Rw.xs) = true := by simp [stepB, h.s1, plainB, hs, hop, i1]
  have hB2 : stepB s r2 o2 (rr2.map Rw.xs) = true := by simp [stepB, h.s2, plainB, hs, hop, i2]
  have k1 := step_ok h.s1 hs hop i1
  have k2 := step_ok h.s2 hs hop i2
  have hfb := (flow_b (p := (f, [])) h.fb (fun x hx => by cases hx) s).1
  have hh := stok_regs hs
  have e8 := stateOk_len h.s1
  have e8' := stateOk_len h.s2
  by_cases h11 : s.op = 11
  · have e39 : inB s.op 3 9 = false := inB_false.2 (by omega)
    have hrd : readsOf s = [s.a] := by simp [readsOf, hs, e39, h11]; rw [h11] at e39; simp [e39]
    have a1 : flowRegs f s = f := by simp [flowRegs, h11]
    have a2 : flowOuts f fo s = fo ++ [depsOf f [s.a]] := by simp [flowOuts, hB, h11, hrd]
    have b1 : stepRegs r1 o1 s (rr1.map Rw.xs) = r1 := by simp [stepRegs, h11]
    have b2 : stepOuts r1 o1 s (rr1.map Rw.xs) = o1 ++ [rgd r1 s.a] := by simp [stepOuts, hB1, h11]
    have c1 : stepRegs r2 o2 s (rr2.map Rw.xs) = r2 := by simp [stepRegs, h11]
    have c2 : stepOuts r2 o2 s (rr2.map Rw.xs) = o2 ++ [rgd r2 s.a] := by simp [stepOuts, hB2, h11]
    rw [b1, b2] at k1; rw [c1, c2] at k2
    rw [a1, a2, b1, b2, c1, c2]
    refine ⟨h.fb, h.fl, k1.1, k2.1, h.regs, by simp [h.l1], by simp [h.l2], fun i hi => ?_⟩
    rw [getD_snoc] at hi ⊢
    rw [getD_snoc, h.l1, h.l2]
    by_cases he : i = fo.length
    · rw [if_pos he] at hi ⊢
      rw [if_pos he]
      exact h.regs _ (deps_bit hp h.fb _ hi s.a (List.mem_singleton.2 rfl))
    · rw [if_neg he] at hi ⊢
      rw [if_neg he]
      exact h.outs i hi
  · have a2 : flowOuts f fo s = fo := by simp [flowOuts, h11]
    have b1 : stepRegs r1 o1 s (rr1.map Rw.xs) = r1.set s.dst.toNat (stepVal s r1 (rr1.map Rw.xs)) := by simp [stepRegs, hB1, h11]
    have b2 : stepOuts r1 o1 s (rr1.map Rw.xs) = o1 := by simp [stepOuts, h11]
    have c1 : stepRegs r2 o2 s (rr2.map Rw.xs) = r2.set s.dst.toNat (stepVal s r2 (rr2.map Rw.xs)) := by simp [stepRegs, hB2, h11]
    have c2 : stepOuts r2 o2 s (rr2.map Rw.xs) = o2 := by simp [stepOuts, h11]
    obtain ⟨v, hv⟩ : ∃ v, flowRegs f s = f.set s.dst.toNat v := ⟨if s.op = 2 then 2 ^ s.a.toNat else depsOf f (readsOf s), by simp only [flowRegs, hB, h11, if_true, if_false]; split <;> rfl⟩
    have hv2 : v = if s.op = 2 then 2 ^ s.a.toNat else depsOf f (readsOf s) := by
      have : (flowRegs f s).getD s.dst.toNat 0 = if s.op = 2 then 2 ^ s.a.toNat else depsOf f (readsOf s) := by
        simp only [flowRegs, hB, h11, if_true, if_false]
        split <;> rw [getD_set _ _ _ _ (by rw [h.fl]; omega), if_pos rfl]
      rw [hv, getD_set _ _ _ _ (by rw [h.fl]; omega), if_pos rfl] at this
      exact this
    have hval : bp pt v = 0 → stepVal s r1 (rr1.map Rw.xs) = stepVal s r2 (rr2.map Rw.xs) := by
      intro hb
      obtain ⟨op, dst, a, b, c, n⟩ := s
      simp only at hv2 h11 hop hh ⊢
      unfold stepVal
      simp only
      by_cases p1 : op = 1
      · rw [if_pos p1, if_pos p1]
      rw [if_neg p1, if_neg p1]
      by_cases p2 : op = 2
      · rw [if_pos p2, if_pos p2]
        rw [if_pos p2] at hv2
        subst p2
        have ha4 := stok_input hs rfl
        simp only at ha4
        obtain ⟨m, rfl⟩ := Int.eq_ofNat_of_zero_le ha4.1
        rw [hv2] at hb
        have hne := bp_pow ⟨pt, hp⟩ ⟨m, by omega⟩ hb
        simp only [Int.toNat_natCast]
        rw [ha m hne]
      rw [if_neg p2, if_neg p2]
      rw [if_neg p2] at hv2
      rw [hv2] at hb
      have hall := deps_bit hp h.fb _ hb
      by_cases p10 : op = 10
      · rw [if_pos p10, if_pos p10]
        subst p10
        have hrd : readsOf ⟨10, dst, a, b, c, n⟩ = [a, b, c] := by simp [readsOf, hs, inB]
        rw [hrd] at hall
        have qa := h.regs _ (hall a (by simp))
        have qb := h.regs _ (hall b (by simp))
        have qc := h.regs _ (hall c (by simp))
        unfold rgd
        rw [qa, qb, qc]
      · rw [if_neg p10, if_neg p10]
        have hin : inB op 3 9 = true := inB_iff.2 (by omega)
        have hrd : readsOf ⟨op, dst, a, b, c, n⟩ = [a, b] := by simp [readsOf, hs, hin]
        rw [hrd] at hall
        have qa := h.regs _ (hall a (by simp))
        have qb := h.regs _ (hall b (by simp))
        unfold rgd
        rw [qa, qb]
    rw [b1, b2] at k1; rw [c1, c2] at k2
    rw [hv] at hfb
    rw [hv, a2, b1, b2, c1, c2]
    refine ⟨hfb, by simp [h.fl], k1.1, k2.1, fun i hi => ?_, h.l1, h.l2, h.outs⟩
    rw [getD_set _ _ _ _ (by rw [h.fl]; omega)] at hi
    rw [getD_set _ _ _ _ (by omega), getD_set _ _ _ _ (by omega)]
    by_cases he : i = s.dst.toNat
    · rw [if_pos he] at hi
      rw [if_pos he, if_pos he]
      exact hval hi
    · rw [if_neg he] at hi
      rw [if_neg he, if_neg he]
      exact h.regs i hi
theorem sim_fold {pt : Nat} (hp : pt < 3) {rr1 rr2 : List Rw} (i1 : inputsOk (rr1.map Rw.xs) = true) (i2 : inputsOk (rr2.map Rw.xs) = true) (ha : ∀ j, j ≠ pt → (rr1.map Rw.xs).getD j [] = (rr2.map Rw.xs).getD j [])
    (us : List St) (h : ∀ s ∈ us, stOk s = true ∧ s.op ≠ 12 ∧ s.op ≠ 13) : Sim pt (flowF us).1 (flowF us).2 (runF us (rr1.map Rw.xs)).1 (runF us (rr1.map Rw.xs)).2 (runF us (rr2.map Rw.xs)).1 (runF us (rr2.map Rw.xs)).2 := by
  have : ∀ (us : List St) (p q1 q2 : List Int × List Int), (∀ s ∈ us, stOk s = true ∧ s.op ≠ 12 ∧ s.op ≠ 13) → Sim pt p.1 p.2 q1.1 q1.2 q2.1 q2.2 →
      Sim pt (us.foldl (fun p s => (flowRegs p.1 s, flowOuts p.1 p.2 s)) p).1 (us.foldl (fun p s => (flowRegs p.1 s, flowOuts p.1 p.2 s)) p).2
        (us.foldl (fun p s => (stepRegs p.1 p.2 s (rr1.map Rw.xs), stepOuts p.1 p.2 s (rr1.map Rw.xs))) q1).1 (us.foldl (fun p s => (stepRegs p.1 p.2 s (rr1.map Rw.xs), stepOuts p.1 p.2 s (rr1.map Rw.xs))) q1).2
        (us.foldl (fun p s => (stepRegs p.1 p.2 s (rr2.map Rw.xs), stepOuts p.1 p.2 s (rr2.map Rw.xs))) q2).1 (us.foldl (fun p s => (stepRegs p.1 p.2 s (rr2.map Rw.xs), stepOuts p.1 p.2 s (rr2.map Rw.xs))) q2).2 := by
    intro us
    induction us with
    | nil => intro p q1 q2 _ h; exact h
    | cons s r ih =>
      intro p q1 q2 hu h
      have hs := hu s (List.mem_cons_self ..)
      have hh := stok_regs hs.1
      exact ih _ _ _ (fun x hx => hu x (List.mem_cons_of_mem _ hx)) (sim_step hp h hs.1 (by omega) i1 i2 ha)
  exact this us (List.replicate 8 0, []) (List.replicate 8 0, []) (List.replicate 8 0, []) h
    ⟨fun x hx => by rw [List.eq_of_mem_replicate hx]; exact ⟨by omega, by omega⟩, by simp, by decide, by decide, fun _ _ => rfl, rfl, rfl, fun _ _ => rfl⟩

end Go.Proofs.Ytfeffofoofmgcaa

/- LawFlows -/
namespace Go.Proofs.Ytfeffofoofmgcaa
open Go.RowKit
set_option linter.unusedVariables false
set_option linter.unusedSimpArgs false

theorem iFlowOk_n (xs us : List St) (ok : Bool) (hv : IsUnr xs us ok) (ad : Option Addr) (cp : Nat) (al : List Int) (na : Nat) (hna : al.length = na) (aa : Option Addr) (ca : Nat) (w : World) (hm : xs.length ≤ maxLen) (hcp : xs.length ≤ cp) (hcm : cp ≤ maxLen) (hr : RdC w ad (stCells xs)) (hma : na ≤ maxLen) (hra : RdC w aa (I64 al)) :
    Calls Try.prog 46 #[.slice ad xs.length cp, .slice aa na ca] w fun e w' => e = .returned (.bool (flowOkB (outDeps us ok) al ok)) ∧ Below w.heap.size w w' := by
  subst hna
  exact iFlowOk_any xs us ok hv ad cp al aa ca w hm hcp hcm hr hma hra

set_option maxRecDepth 20000 in
set_option maxHeartbeats 8000000 in
theorem walk_FnFlows (w : World) (xs : List Int) (ad : Option Addr) (c : Nat) (hm : xs.length ≤ maxLen) (hr : RdC w ad (xs.map (Value.int .u8))) (hb : ∀ x ∈ xs, 0 ≤ x ∧ x ≤ 255) :
    Calls Try.prog 17 #[.slice ad xs.length c] w fun e w' => e = .returned (.bool true) ∧ Below w.heap.size w w' := by
  unfold maxLen at hm
  by_cases hsz : xs.length ≤ 1048576
  case neg =>
    go_enter Try.func17, Try.ntmps17
    go_wp2_with (first | (go_at_call 65; go_in) | fail)
    go_ret
    exact ⟨rfl, Below.refl _ _⟩
  go_enter Try.func17, Try.ntmps17
  go_wp2_with (first | (go_at_call 65; go_in) | fail)
  refine (DrawProgram_any xs ad c w hsz hr hb).mono ?_
  rintro e w1 ⟨gp, cp, l, rfl, hp, hol, hb1⟩
  have hncp : l.length ≤ cp := hol.cap
  have hcm : cp ≤ maxLen := hol.capMax
  obtain ⟨us', hus'⟩ := hp.ur
  have hl40 := hp.len
  have hok : progOk l = true := ur_progOk (ur_mono hus' (by omega)) hl40
  obtain ⟨r2, hr2⟩ := hp.two
  have hl2 : 2 ≤ l.length := by rw [hr2]; simp
  have HOK := Lib.hid hok
  have HP := Lib.hid hp
  have HL := Lib.hid hol.rd
  have HTWO := Lib.hid hr2
  have hlM : l.length ≤ maxLen := by unfold maxLen; omega
  have z1 := hb1.size
  have ge1 := hol.ge
  have HOL := Lib.hid hol
  clear hp hol hok hr2 hus'
  obtain ⟨U, hU, hSZ, hu1, hu0⟩ := unr_one HOK.out
  have HSZ := Lib.hid hSZ
  by_cases h120 : U.length ≤ 120
  case neg =>
    have HU := Lib.hid (hu0 (by omega))
    have t0 : decide ((120 : Int) < (U.length : Int)) = true := decide_eq_true (by omega)
    clear hU hSZ hu1 hu0
    go_wp2_with (first | (go_at_call 49; refine (iOutputDeps_any l [] false HU.out _ _ _ hlM hncp hcm (HL.out.below (by (repeat (first | with_reducible exact Below.refl _ _ | (with_reducible refine bel_next ?_ ?_ (by assumption)) | (with_reducible refine Below.alloc ?_ ?_ _) | (with_reducible refine Below.drew ?_) | (with_reducible refine below_drewN ?_ _) | (with_reducible refine Below.setCell ?_ ?_ _))) <;> (first | omega | (simp; done) | (simp; omega))))).mono ?_; rintro e w2 ⟨a2, e2, rfl, ho2, hb2⟩; have z2 := hb2.size; have HO2 := Lib.hid ho2.rd; have HBK : Hid (∀ x, a2 = some x → x.block < w2.heap.size) := fun x hx => (ho2.blk x hx).2.2.2; clear ho2) | (go_at_call 29; refine (iUnrolledSize_any l _ HSZ.out _ _ _ hlM hncp hcm (HL.out.below (by (repeat (first | with_reducible exact Below.refl _ _ | (with_reducible refine bel_next ?_ ?_ (by assumption)) | (with_reducible refine Below.alloc ?_ ?_ _) | (with_reducible refine Below.drew ?_) | (with_reducible refine below_drewN ?_ _) | (with_reducible refine Below.setCell ?_ ?_ _))) <;> (first | omega | (simp; done) | (simp; omega))))).mono ?_; rintro e w3 ⟨rfl, hb3⟩; have z3 := hb3.size) | (go_at_call 46; refine (iFlowOk_any l [] false HU.out _ _ [] a2 e2 _ hlM hncp hcm (HL.out.below (by (repeat (first | with_reducible exact Below.refl _ _ | (with_reducible refine bel_next ?_ ?_ (by assumption)) | (with_reducible refine Below.alloc ?_ ?_ _) | (with_reducible refine Below.drew ?_) | (with_reducible refine below_drewN ?_ _) | (with_reducible refine Below.setCell ?_ ?_ _))) <;> (first | omega | (simp; done) | (simp; omega)))) (by simp) (RdC.nil _ _)).mono ?_; rintro e w4 ⟨rfl, hb4⟩))
    go_ret
    exact ⟨rfl, (by (repeat (first | with_reducible exact Below.refl _ _ | (with_reducible refine bel_next ?_ ?_ (by assumption)) | (with_reducible refine Below.alloc ?_ ?_ _) | (with_reducible refine Below.drew ?_) | (with_reducible refine below_drewN ?_ _) | (with_reducible refine Below.setCell ?_ ?_ _))) <;> (first | omega | (simp; done) | (simp; omega)))⟩
  have HU := Lib.hid (hu1 h120)
  have hpl := ur_plains hU
  obtain ⟨hDb, hDl⟩ := flowF_all U hpl
  obtain ⟨D, hD⟩ : ∃ d, d = outDeps U true := ⟨_, rfl⟩
  have hD2 : D = (flowF U).2 := by rw [hD]; simp [outDeps]
  rw [← hD2] at hDb hDl
  have hDm : D.length ≤ 120 := by rw [hDl]; exact Nat.le_trans (cntOut_le U) h120
  obtain ⟨oc, hoc⟩ : ∃ q, q = outCount U true := ⟨_, rfl⟩
  have hocl : oc = (D.length : Int) := by rw [hoc, hDl]; simp [outCount]
  have tl : ((D.length : Int) == oc) = true := by simp [hocl]
  have H1 := Lib.hid (flows_self hDb)
  have H2 := Lib.hid (flows_more hDb)
  have H3 := Lib.hid (flows_none hDb)
  have HDB := Lib.hid hDb
  have HD := Lib.hid hD
  have HQ := Lib.hid hoc
  clear hU hSZ hu1 hu0 hpl hDb hDl hD hD2 hoc hocl
  go_wp2_with (first | (go_at_call 49; refine (iOutputDeps_any l U true HU.out _ _ _ hlM hncp hcm (HL.out.below (by (repeat (first | with_reducible exact Below.refl _ _ | (with_reducible refine bel_next ?_ ?_ (by assumption)) | (with_reducible refine Below.alloc ?_ ?_ _) | (with_reducible refine Below.drew ?_) | (with_reducible refine below_drewN ?_ _) | (with_reducible refine Below.setCell ?_ ?_ _))) <;> (first | omega | (simp; done) | (simp; omega))))).mono ?_; rintro e w2 ⟨a2, e2, rfl, ho2, hb2⟩; have z2 := hb2.size; rw [← HD.out] at ho2; rw [← HD.out]; have HO2 := Lib.hid ho2.rd; have HBK : Hid (∀ x, a2 = some x → x.block < w2.heap.size) := fun x hx => (ho2.blk x hx).2.2.2; clear ho2))
  obtain ⟨wa, hwa⟩ : ∃ W, W = (w2.alloc (.cells #[] 3)).alloc (.cells #[] 3) := ⟨_, rfl⟩
  try rw [← hwa]
  have hba : Below w2.heap.size w2 wa := by rw [hwa]; exact (by (repeat (first | with_reducible exact Below.refl _ _ | (with_reducible refine bel_next ?_ ?_ (by assumption)) | (with_reducible refine Below.alloc ?_ ?_ _) | (with_reducible refine Below.drew ?_) | (with_reducible refine below_drewN ?_ _) | (with_reducible refine Below.setCell ?_ ?_ _))) <;> (first | omega | (simp; done) | (simp; omega)))
  have hom : Own wa w2.heap.size 3 1 (some ⟨w2.heap.size, 0, none⟩) 0 0 (I64 []) := by rw [hwa]; exact (own_new w2 3 1).alloc _
  have hon : Own wa w2.heap.size 3 1 (some ⟨w2.heap.size + 1, 0, none⟩) 0 0 (I64 []) := by
    rw [hwa]
    have := (own_new (w2.alloc (.cells #[] 3)) 3 1).lo (lo' := w2.heap.size) (by simp)
    simpa using this
  clear hwa
  go_loopw [6, 7, 8, 9] (fun m n q i wr => ∃ (k gm cm gn cn : Nat), k ≤ D.length ∧ i = .int .i64 k ∧ m = .slice (some ⟨gm, 0, none⟩) k cm ∧ n = .slice (some ⟨gn, 0, none⟩) k cn ∧ q = .int .i64 (allOr (D.take k)) ∧
      Own wr w2.heap.size 3 1 (some ⟨gm, 0, none⟩) k cm (I64 ((D.take k).map fun x => bits .or .i64 x 4)) ∧ Own wr w2.heap.size 3 1 (some ⟨gn, 0, none⟩) k cn (I64 (List.replicate k 0)) ∧ gm ≠ gn ∧ Below w2.heap.size w2 wr) (fun _ _ _ i _ => D.length - (intOf i).toNat)
  case atStart => exact ⟨0, w2.heap.size, 0, w2.heap.size + 1, 0, Nat.zero_le _, rfl, rfl, rfl, rfl, hom, hon, by omega, hba⟩
  case round =>
    obtain ⟨k, gm, cm, gn, cn, hk, rfl, rfl, rfl, rfl, hm', hn', hne, hbw⟩ := hrel
    have zw := hbw.size
    have gem := hm'.ge
    have gen := hn'.ge
    by_cases hlt : k < D.length
    · obtain ⟨b3, off3, rfl, hc3⟩ := (HO2.out.below hbw).at k hlt
      have hbk : b3 < w2.heap.size := HBK.out _ rfl
      have hbk2 : b3 < wr.heap.size := by omega
      have hck := hc3 k hlt
      have HS := Lib.hid (allOr_snoc hlt)
      have HM := Lib.hid (show (D.take (k + 1)).map (fun x => bits .or .i64 x 4) = (D.take k).map (fun x => bits .or .i64 x 4) ++ [bits .or .i64 D[k] 4] by rw [List.take_succ_eq_append_getElem hlt, List.map_append]; rfl)
      have hbb := (or_b (HDB.out _ (List.getElem_mem hlt)) (show b32 4 from ⟨by omega, by omega⟩)).1
      obtain ⟨x, hx⟩ : ∃ x, x = D[k] := ⟨_, rfl⟩
      rw [← hx] at hck HS HM hbb
      obtain ⟨q, hq⟩ : ∃ q, q = allOr (D.take k) := ⟨_, rfl⟩
      rw [← hq] at HS
      rw [← hq]
      obtain ⟨ms, hms⟩ : ∃ q, q = (D.take k).map (fun x => bits .or .i64 x 4) := ⟨_, rfl⟩
      rw [← hms] at HM hm'
      have HR : Hid (List.replicate (k + 1) (0 : Int) = List.replicate k 0 ++ [0]) := List.replicate_succ'
      obtain ⟨ns, hns⟩ : ∃ q, q = List.replicate k (0 : Int) := ⟨_, rfl⟩
      rw [← hns] at HR hn'
      have hi1 : (k : Int) < (D.length : Int) := by omega
      clear hc3 hx hq hms hns
      go_wp2_with (first | (refine wpList_push _ rfl _ _ rfl w2.heap.size gm k cm ms (bits .or .i64 x 4) wr.heap.size 1 (by rfl) (by rfl) (hm'.later (by (repeat (first | with_reducible exact Kp.refl _ _ | (with_reducible refine Kp.rng ?_ (by assumption) ?_) | (with_reducible refine Kp.below ?_ (by assumption)) | (with_reducible refine Kp.grown ?_ (by assumption) ?_) | (with_reducible refine Kp.alloc ?_ _) | (with_reducible refine Kp.drew ?_) | (with_reducible refine Kp.drewN ?_ _) | (with_reducible refine Kp.setCell ?_ _ ?_))) <;> (first | omega | (simp; done) | (simp; omega)))) (by go_simp) (by omega) (by first | omega | (simp; done) | (simp; omega)) ?_; intro g5 c5 w5 ho5 hb5 hg5 hat5; (try simp at hat5); have z5 := hb5.size; (try simp at z5); have y5 := hg5.size; (try simp at y5); have ge5 := ho5.ge; have hbk5 : b3 < w5.heap.size := (by omega); have kk5 := grown_cell hg5 (b := b3) (o := off3 + k) (x := .int .i64 x) (by first | (simp; omega) | omega) (by go_simp)) | (refine wpList_push _ rfl _ _ rfl w2.heap.size gn k cn ns 0 w5.heap.size 1 (by rfl) (by rfl) (hn'.later (by (repeat (first | with_reducible exact Kp.refl _ _ | (with_reducible refine Kp.rng ?_ (by assumption) ?_) | (with_reducible refine Kp.below ?_ (by assumption)) | (with_reducible refine Kp.grown ?_ (by assumption) ?_) | (with_reducible refine Kp.alloc ?_ _) | (with_reducible refine Kp.drew ?_) | (with_reducible refine Kp.drewN ?_ _) | (with_reducible refine Kp.setCell ?_ _ ?_))) <;> (first | omega | (simp; done) | (simp; omega)))) (by go_simp) (by omega) (by first | omega | (simp; done) | (simp; omega)) ?_; intro g6 c6 w6 ho6 hb6 hg6 hat6; (try simp at hat6); have z6 := hb6.size; (try simp at z6); have y6 := hg6.size; (try simp at y6); have ge6 := ho6.ge; have kk6 := grown_cell hg6 (b := b3) (o := off3 + k) (x := .int .i64 x) (by first | (simp; omega) | omega) (by go_simp)))
      go_roundw
      case rel => exact ⟨k + 1, g5, c5, g6, c6, by omega, by go_num, rfl, rfl, by rw [HS.out], by rw [HM.out]; exact ho5.later (by (repeat (first | with_reducible exact Kp.refl _ _ | (with_reducible refine Kp.rng ?_ (by assumption) ?_) | (with_reducible refine Kp.below ?_ (by assumption)) | (with_reducible refine Kp.grown ?_ (by assumption) ?_) | (with_reducible refine Kp.alloc ?_ _) | (with_reducible refine Kp.drew ?_) | (with_reducible refine Kp.drewN ?_ _) | (with_reducible refine Kp.setCell ?_ _ ?_))) <;> (first | omega | (simp; done) | (simp; omega))), by rw [HR.out]; exact ho6, by omega, (by (repeat (first | with_reducible exact Below.refl _ _ | (with_reducible refine bel_next ?_ ?_ (by assumption)) | (with_reducible refine Below.alloc ?_ ?_ _) | (with_reducible refine Below.drew ?_) | (with_reducible refine below_drewN ?_ _) | (with_reducible refine Below.setCell ?_ ?_ _))) <;> (first | omega | (simp; done) | (simp; omega)))⟩
      case measure => simp [intOf]; omega
    · have hkD : k = D.length := by omega
      have HT := Lib.hid (show D.take k = D from List.take_of_length_le (by omega))
      rw [HT.out] at hm'
      rw [HT.out]
      obtain ⟨q, hq⟩ : ∃ q, q = allOr D := ⟨_, rfl⟩
      rw [← hq] at H3
      rw [← hq]
      have HKD := Lib.hid hkD
      have HM2 := Lib.hid hm'
      have HN2 := Lib.hid hn'
      clear hkD hm' hn' hq
      go_wp2_with fail
      refine (iFlowOk_n l U true HU.out _ _ D D.length rfl a2 e2 _ hlM hncp hcm (HL.out.below (by (repeat (first | with_reducible exact Below.refl _ _ | (with_reducible refine bel_next ?_ ?_ (by assumption)) | (with_reducible refine Below.alloc ?_ ?_ _) | (with_reducible refine Below.drew ?_) | (with_reducible refine below_drewN ?_ _) | (with_reducible refine Below.setCell ?_ ?_ _))) <;> (first | omega | (simp; done) | (simp; omega)))) (by unfold maxLen; omega) (HO2.out.below (by (repeat (first | with_reducible exact Below.refl _ _ | (with_reducible refine bel_next ?_ ?_ (by assumption)) | (with_reducible refine Below.alloc ?_ ?_ _) | (with_reducible refine Below.drew ?_) | (with_reducible refine below_drewN ?_ _) | (with_reducible refine Below.setCell ?_ ?_ _))) <;> (first | omega | (simp; done) | (simp; omega))))).mono ?_; rw [← HD.out, H1.out]; rintro e w10 ⟨rfl, hb10⟩; have z10 := hb10.size; (try simp at z10)
      go_wp2_with fail
      refine (iFlowOk_n l U true HU.out _ _ (D.map fun x => bits .or .i64 x 4) k (by simp; exact HKD.out.symm) (some ⟨gm, 0, none⟩) cm _ hlM hncp hcm (HL.out.below (by (repeat (first | with_reducible exact Below.refl _ _ | (with_reducible refine bel_next ?_ ?_ (by assumption)) | (with_reducible refine Below.alloc ?_ ?_ _) | (with_reducible refine Below.drew ?_) | (with_reducible refine below_drewN ?_ _) | (with_reducible refine Below.setCell ?_ ?_ _))) <;> (first | omega | (simp; done) | (simp; omega)))) (by unfold maxLen; omega) ((HM2.out.later (by (repeat (first | with_reducible exact Kp.refl _ _ | (with_reducible refine Kp.rng ?_ (by assumption) ?_) | (with_reducible refine Kp.below ?_ (by assumption)) | (with_reducible refine Kp.grown ?_ (by assumption) ?_) | (with_reducible refine Kp.alloc ?_ _) | (with_reducible refine Kp.drew ?_) | (with_reducible refine Kp.drewN ?_ _) | (with_reducible refine Kp.setCell ?_ _ ?_))) <;> (first | omega | (simp; done) | (simp; omega)))).rd)).mono ?_; rw [← HD.out, H2.out]; rintro e w11 ⟨rfl, hb11⟩; have z11 := hb11.size; (try simp at z11)
      go_wp2_with fail
      refine (iFlowOk_n l U true HU.out _ _ (List.replicate D.length 0) k (by simp; exact HKD.out.symm) (some ⟨gn, 0, none⟩) cn _ hlM hncp hcm (HL.out.below (by (repeat (first | with_reducible exact Below.refl _ _ | (with_reducible refine bel_next ?_ ?_ (by assumption)) | (with_reducible refine Below.alloc ?_ ?_ _) | (with_reducible refine Below.drew ?_) | (with_reducible refine below_drewN ?_ _) | (with_reducible refine Below.setCell ?_ ?_ _))) <;> (first | omega | (simp; done) | (simp; omega)))) (by unfold maxLen; omega) (by rw [← HKD.out]; exact (HN2.out.later (by (repeat (first | with_reducible exact Kp.refl _ _ | (with_reducible refine Kp.rng ?_ (by assumption) ?_) | (with_reducible refine Kp.below ?_ (by assumption)) | (with_reducible refine Kp.grown ?_ (by assumption) ?_) | (with_reducible refine Kp.alloc ?_ _) | (with_reducible refine Kp.drew ?_) | (with_reducible refine Kp.drewN ?_ _) | (with_reducible refine Kp.setCell ?_ _ ?_))) <;> (first | omega | (simp; done) | (simp; omega)))).rd)).mono ?_; rw [← HD.out, H3.out]; rintro e w12 ⟨rfl, hb12⟩; have z12 := hb12.size; (try simp at z12)
      go_wp2_with fail
      refine (iOutputCount_any l U _ HU.out _ _ _ hlM hncp hcm (HL.out.below (by (repeat (first | with_reducible exact Below.refl _ _ | (with_reducible refine bel_next ?_ ?_ (by assumption)) | (with_reducible refine Below.alloc ?_ ?_ _) | (with_reducible refine Below.drew ?_) | (with_reducible refine below_drewN ?_ _) | (with_reducible refine Below.setCell ?_ ?_ _))) <;> (first | omega | (simp; done) | (simp; omega))))).mono ?_; rw [← HQ.out]; rintro e w13 ⟨rfl, hb13⟩; have z13 := hb13.size
      go_wp2_with fail
      refine (iFlowNew_any _).mono ?_; rintro e w14 ⟨g14, rfl, _, hb14⟩; have z14 := hb14.size; have hfd : ∀ w : World, (Instr.field 35 (.agg #[.slice (some ⟨g14, 0, none⟩) 8 8, .slice none 0 0]) 0).run Try.prog w = .ok (.slice (some ⟨g14, 0, none⟩) 8 8) w := fun _ => by kernel_rfl
      go_wp2_with fail
      all_goals go_ret
      all_goals exact ⟨ret_bool (by simp [*]), (by (repeat (first | with_reducible exact Below.refl _ _ | (with_reducible refine bel_next ?_ ?_ (by assumption)) | (with_reducible refine Below.alloc ?_ ?_ _) | (with_reducible refine Below.drew ?_) | (with_reducible refine below_drewN ?_ _) | (with_reducible refine Below.setCell ?_ ?_ _))) <;> (first | omega | (simp; done) | (simp; omega)))⟩
end Go.Proofs.Ytfeffofoofmgcaa

/- LawLoopRuns -/
namespace Go.Proofs.Ytfeffofoofmgcaa
open Go.RowKit
set_option linter.unusedVariables false
set_option linter.unusedSimpArgs false

theorem iRunProgram_n (xs us : List St) (ok : Bool) (hv : IsUnr xs us ok) (ad : Option Addr) (cp : Nat) (w : World) (hm : xs.length ≤ maxLen) (hcp : xs.length ≤ cp) (hcm : cp ≤ maxLen) (hr : RdC w ad (stCells xs)) (rr : List Rw) (nn : Nat) (xss : List (List Int)) (ai : Option Addr) (ci : Nat) (hn : rr.length = nn) (hx : rr.map Rw.xs = xss) (hmr : nn ≤ 1048576) (hml : rowsLe rr) (hri : RdR w ai rr) :
    Calls Try.prog 64 #[.slice ad xs.length cp, .slice ai nn ci] w fun e w' => ∃ a c, e = .returned (.tuple #[.slice a (runOuts us xss ok).length c, .bool (runOk ok xss)]) ∧ Own w' w.heap.size 3 1 a (runOuts us xss ok).length c (I64 (runOuts us xss ok)) ∧ Below w.heap.size w w' := by
  subst hn; subst hx
  exact iRunProgram_any xs us ok hv ad cp w hm hcp hcm hr rr ai ci hmr hml hri
theorem iStepState_n (rs os : List Int) (a1 a2 : Option Addr) (c1 c2 : Nat) (s : St) (rr : List Rw) (nn : Nat) (xss : List (List Int)) (ai : Option Addr) (ci : Nat) (w : World) (hm1 : rs.length ≤ 1048576) (hm2 : os.length ≤ 1048576) (hr1 : RdC w a1 (I64 rs)) (hr2 : RdC w a2 (I64 os)) (hn : rr.length = nn) (hx : rr.map Rw.xs = xss) (hmr : nn ≤ 1048576) (hml : rowsLe rr) (hri : RdR w ai rr) :
    Calls Try.prog 57 #[.agg #[.slice a1 rs.length c1, .slice a2 os.length c2], stV s, .slice ai nn ci] w fun e w' => ∃ g1 d1 g2 d2, e = .returned (.agg #[.slice (some ⟨g1, 0, none⟩) (stepRegs rs os s xss).length d1, .slice (some ⟨g2, 0, none⟩) (stepOuts rs os s xss).length d2]) ∧
      Own w' w.heap.size 3 1 (some ⟨g1, 0, none⟩) (stepRegs rs os s xss).length d1 (I64 (stepRegs rs os s xss)) ∧ Own w' w.heap.size 3 1 (some ⟨g2, 0, none⟩) (stepOuts rs os s xss).length d2 (I64 (stepOuts rs os s xss)) ∧ g1 < g2 ∧ Below w.heap.size w w' := by
  subst hn; subst hx
  exact iStepState_any rs os a1 a2 c1 c2 s rr ai ci w hm1 hm2 hr1 hr2 hmr hml hri

set_option maxRecDepth 20000 in
set_option maxHeartbeats 8000000 in
theorem walk_FnLoopRuns (w : World) (xs : List Int) (ad : Option Addr) (c : Nat) (hm : xs.length ≤ maxLen) (hr : RdC w ad (xs.map (Value.int .u8))) (hb : ∀ x ∈ xs, 0 ≤ x ∧ x ≤ 255) :
    Calls Try.prog 19 #[.slice ad xs.length c] w fun e w' => e = .returned (.bool true) ∧ Below w.heap.size w w' := by
  unfold maxLen at hm
  by_cases hsz : xs.length ≤ 1048576
  case neg =>
    go_enter Try.func19, Try.ntmps19
    go_wp2_with (first | (go_at_call 65; go_in) | fail)
    go_ret
    exact ⟨rfl, Below.refl _ _⟩
  go_enter Try.func19, Try.ntmps19
  go_wp2_with (first | (go_at_call 65; go_in) | fail)
  refine (DrawRun_any xs ad c w hsz hr hb).mono ?_
  rintro e w1 ⟨gp, cp, ga, ca, l, rs, rfl, hp, hol, hrs5, hin, hrd, hb1⟩
  have hncp : l.length ≤ cp := hol.cap
  have hcm : cp ≤ maxLen := hol.capMax
  obtain ⟨us', hus'⟩ := hp.ur
  have hl40 := hp.len
  have hok : progOk l = true := ur_progOk (ur_mono hus' (by omega)) hl40
  obtain ⟨r2, hr2⟩ := hp.two
  have hl2 : 2 ≤ l.length := by rw [hr2]; simp
  have HOK := Lib.hid hok
  have HP := Lib.hid hp
  have HL := Lib.hid hol.rd
  have hlM : l.length ≤ maxLen := by unfold maxLen; omega
  have z1 := hb1.size
  have ge1 := hol.ge
  have H5 := Lib.hid hrs5
  have HIN := Lib.hid hin
  have HRI := Lib.hid hrd
  have hmlR : rowsLe rs := fun r hr' => by
    first | (have := (inputsOk_parts hin).2 r hr'; unfold maxLen; omega) | (obtain ⟨k, hk, rfl⟩ := List.getElem_of_mem hr'; have := (inputs_row hin hk).1; unfold maxLen; omega)
  have HML := Lib.hid hmlR
  obtain ⟨xss, hxss⟩ : ∃ x, x = rs.map Rw.xs := ⟨_, rfl⟩
  have HXS := Lib.hid hxss
  clear hp hol hok hr2 hus' hrs5 hin hrd hmlR hxss
  have hin' := HIN.out
  obtain ⟨U, hU, hSZ, hu1, hu0⟩ := unr_one HOK.out
  have HSZ := Lib.hid hSZ
  by_cases h120 : U.length ≤ 120
  case neg =>
    have HU := Lib.hid (hu0 (by omega))
    have t0 : decide ((120 : Int) < (U.length : Int)) = true := decide_eq_true (by omega)
    have HRO : Hid (runOk false xss = false) := rfl
    clear hU hSZ hu1 hu0 hin'
    go_wp2_with fail
    refine (sUnroll_any l [] false HU.out _ _ _ hlM hncp hcm (HL.out.below (by (repeat (first | with_reducible exact Below.refl _ _ | (with_reducible refine bel_next ?_ ?_ (by assumption)) | (with_reducible refine Below.alloc ?_ ?_ _) | (with_reducible refine Below.drew ?_) | (with_reducible refine below_drewN ?_ _) | (with_reducible refine Below.setCell ?_ ?_ _))) <;> (first | omega | (simp; done) | (simp; omega))))).mono ?_
    rintro e w2 ⟨a2, e2, rfl, ho2, hb2⟩
    have z2 := hb2.size
    have HO2 := Lib.hid ho2.rd
    have HBA : Hid (∀ x, a2 = some x → x.block < w2.heap.size) := fun x hx => (ho2.blk x hx).2.2.2
    clear ho2
    go_wp2_with fail
    refine (iRunProgram_n l [] false HU.out _ _ _ hlM hncp hcm (HL.out.below (by (repeat (first | with_reducible exact Below.refl _ _ | (with_reducible refine bel_next ?_ ?_ (by assumption)) | (with_reducible refine Below.alloc ?_ ?_ _) | (with_reducible refine Below.drew ?_) | (with_reducible refine below_drewN ?_ _) | (with_reducible refine Below.setCell ?_ ?_ _))) <;> (first | omega | (simp; done) | (simp; omega)))) rs 5 xss _ _ H5.out HXS.out.symm (by omega) HML.out (HRI.out.below (by (repeat (first | with_reducible exact Below.refl _ _ | (with_reducible refine bel_next ?_ ?_ (by assumption)) | (with_reducible refine Below.alloc ?_ ?_ _) | (with_reducible refine Below.drew ?_) | (with_reducible refine below_drewN ?_ _) | (with_reducible refine Below.setCell ?_ ?_ _))) <;> (first | omega | (simp; done) | (simp; omega))))).mono ?_
    rw [HRO.out]
    rintro e w3 ⟨a3, e3, rfl, ho3, hb3⟩
    have z3 := hb3.size
    go_wp2_with fail
    refine (iUnrolledSize_any l _ HSZ.out _ _ _ hlM hncp hcm (HL.out.below (by (repeat (first | with_reducible exact Below.refl _ _ | (with_reducible refine bel_next ?_ ?_ (by assumption)) | (with_reducible refine Below.alloc ?_ ?_ _) | (with_reducible refine Below.drew ?_) | (with_reducible refine below_drewN ?_ _) | (with_reducible refine Below.setCell ?_ ?_ _))) <;> (first | omega | (simp; done) | (simp; omega))))).mono ?_
    rintro e w4 ⟨rfl, hb4⟩
    have z4 := hb4.size
    go_wp2_with fail
    go_ret
    exact ⟨rfl, (by (repeat (first | with_reducible exact Below.refl _ _ | (with_reducible refine bel_next ?_ ?_ (by assumption)) | (with_reducible refine Below.alloc ?_ ?_ _) | (with_reducible refine Below.drew ?_) | (with_reducible refine below_drewN ?_ _) | (with_reducible refine Below.setCell ?_ ?_ _))) <;> (first | omega | (simp; done) | (simp; omega)))⟩
  have HU := Lib.hid (hu1 h120)
  have hpl := ur_plains hU
  have hra := runF_all hin' U hpl
  rw [← HXS.out] at hra hin'
  have HRO : Hid (runOk true xss = true) := by show _ = _; simp [runOk, hin']
  obtain ⟨D, hD⟩ : ∃ d, d = runOuts U xss true := ⟨_, rfl⟩
  have hD2 : D = (runF U xss).2 := by rw [hD]; simp [runOuts, HRO.out]
  rw [← hD2] at hra
  obtain ⟨oc, hoc⟩ : ∃ q, q = outCount U true := ⟨_, rfl⟩
  have hocl : oc = (D.length : Int) := by rw [hoc, hra.2]; simp [outCount]
  have tl : ((D.length : Int) == oc) = true := by simp [hocl]
  have hDm : D.length ≤ 120 := by rw [hra.2]; exact Nat.le_trans (cntOut_le U) h120
  have HD := Lib.hid hD
  have HD2 := Lib.hid hD2
  have HQ := Lib.hid hoc
  clear hU hSZ hu1 hu0 hpl hra hin' hD hD2 hoc hocl
  go_wp2_with fail
  refine (sUnroll_any l U true HU.out _ _ _ hlM hncp hcm (HL.out.below (by (repeat (first | with_reducible exact Below.refl _ _ | (with_reducible refine bel_next ?_ ?_ (by assumption)) | (with_reducible refine Below.alloc ?_ ?_ _) | (with_reducible refine Below.drew ?_) | (with_reducible refine below_drewN ?_ _) | (with_reducible refine Below.setCell ?_ ?_ _))) <;> (first | omega | (simp; done) | (simp; omega))))).mono ?_
  rintro e w2 ⟨a2, e2, rfl, ho2, hb2⟩
  have z2 := hb2.size
  have HO2 := Lib.hid ho2.rd
  have HBA : Hid (∀ x, a2 = some x → x.block < w2.heap.size) := fun x hx => (ho2.blk x hx).2.2.2
  clear ho2
  go_wp2_with fail
  refine (iRunProgram_n l U true HU.out _ _ _ hlM hncp hcm (HL.out.below (by (repeat (first | with_reducible exact Below.refl _ _ | (with_reducible refine bel_next ?_ ?_ (by assumption)) | (with_reducible refine Below.alloc ?_ ?_ _) | (with_reducible refine Below.drew ?_) | (with_reducible refine below_drewN ?_ _) | (with_reducible refine Below.setCell ?_ ?_ _))) <;> (first | omega | (simp; done) | (simp; omega)))) rs 5 xss _ _ H5.out HXS.out.symm (by omega) HML.out (HRI.out.below (by (repeat (first | with_reducible exact Below.refl _ _ | (with_reducible refine bel_next ?_ ?_ (by assumption)) | (with_reducible refine Below.alloc ?_ ?_ _) | (with_reducible refine Below.drew ?_) | (with_reducible refine below_drewN ?_ _) | (with_reducible refine Below.setCell ?_ ?_ _))) <;> (first | omega | (simp; done) | (simp; omega))))).mono ?_
  rw [HRO.out, ← HD.out]
  rintro e w3 ⟨a3, e3, rfl, ho3, hb3⟩
  have z3 := hb3.size
  have HO3 := Lib.hid ho3
  clear ho3
  go_wp2_with fail
  refine (iStateNew_any _).mono ?_
  rintro e w4 ⟨g, rfl, hog, hb4⟩
  have z4 := hb4.size
  have qg := hog.ge
  have HOG := Lib.hid hog
  clear hog
  go_wp2_with fail
  go_loopw [10] (fun i wr => ∃ (k : Nat) (rs' os : List Int) (a1 a2' : Option Addr) (e1 e2' : Nat), k ≤ U.length ∧ i = .int .i64 k ∧ (rs', os) = runF (U.take k) xss ∧ wr.cell? ⟨w4.heap.size, 0, none⟩ = some (.slice a1 rs'.length e1) ∧ wr.cell? ⟨w4.heap.size, 1, none⟩ = some (.slice a2' os.length e2') ∧ wr.frozen? ⟨w4.heap.size, 0, none⟩ = false ∧ wr.frozen? ⟨w4.heap.size, 1, none⟩ = false ∧
        RdC wr a1 (I64 rs') ∧ Own wr w4.heap.size 3 1 a2' os.length e2' (I64 os) ∧ (∀ a, a1 = some a → a.block ≠ w4.heap.size) ∧ (∀ a, a2' = some a → a.block ≠ w4.heap.size) ∧ Below w4.heap.size w4 wr ∧ w4.heap.size < wr.heap.size) (fun i _ => U.length - (intOf i).toNat)
  case atStart =>
    refine ⟨0, List.replicate 8 0, [], some ⟨g, 0, none⟩, none, 8, 0, Nat.zero_le _, rfl, rfl, by go_simp, by go_simp, by go_simp, by go_simp, (HOG.out.later (by (repeat (first | with_reducible exact Kp.refl _ _ | (with_reducible refine Kp.rng ?_ (by assumption) ?_) | (with_reducible refine Kp.below ?_ (by assumption)) | (with_reducible refine Kp.grown ?_ (by assumption) ?_) | (with_reducible refine Kp.alloc ?_ _) | (with_reducible refine Kp.drew ?_) | (with_reducible refine Kp.drewN ?_ _) | (with_reducible refine Kp.setCell ?_ _ ?_))) <;> (first | omega | (simp; done) | (simp; omega)))).rd, Own.nil _ _ _ _, ?_, (fun a h => by cases h), (by (repeat (first | with_reducible exact Below.refl _ _ | (with_reducible refine bel_next ?_ ?_ (by assumption)) | (with_reducible refine Below.alloc ?_ ?_ _) | (with_reducible refine Below.drew ?_) | (with_reducible refine below_drewN ?_ _) | (with_reducible refine Below.setCell ?_ ?_ _))) <;> (first | omega | (simp; done) | (simp; omega))), by simp⟩
    intro a h
    obtain rfl : _ = a := Option.some.inj h
    simp; omega
  case round =>
    obtain ⟨k, rs', os, a1, a2', e1, e2', hk, rfl, hf, q0, q1, f0, f1, hrr, hown, hn1, hn2, hbw, hB⟩ := hrel
    have hl := runF_len U xss k
    rw [← hf] at hl
    simp only at hl
    have hl2 := hl.2
    have hm1 : rs'.length ≤ 1048576 := by rw [hl.1]; omega
    have hm2 : os.length ≤ 1048576 := by omega
    have HF := Lib.hid hf
    have H1 := Lib.hid hrr
    have H2 := Lib.hid hown
    have N1 := Lib.hid hn1
    have N2 := Lib.hid hn2
    have zw := hbw.size
    clear hl hf hrr hown hn1 hn2
    by_cases hlt : k < U.length
    · obtain ⟨b, off, op, dst, sa, sb, sc, sn, rfl, hbl, hx, c0, c1, c2, c3, c4, c5⟩ := (show RdC wr a2 (stCells U) from HO2.out.below (by (repeat (first | with_reducible exact Below.refl _ _ | (with_reducible refine bel_next ?_ ?_ (by assumption)) | (with_reducible refine Below.alloc ?_ ?_ _) | (with_reducible refine Below.drew ?_) | (with_reducible refine below_drewN ?_ _) | (with_reducible refine Below.setCell ?_ ?_ _))) <;> (first | omega | (simp; done) | (simp; omega)))).st k hlt
      have hsn := runF_snoc (xss := xss) hx
      rw [← HF.out] at hsn
      simp only at hsn
      have HSN := Lib.hid hsn
      clear hsn hx
      have hbb : b ≠ w4.heap.size := by have := HBA.out _ rfl; simp at this; omega
      go_wp2_with fail
      go_region_with (go_at_call 57; refine (iStepState_n rs' os a1 a2' e1 e2' ⟨op, dst, sa, sb, sc, sn⟩ rs 5 xss _ _ _ hm1 hm2 (H1.out.below (by (repeat (first | with_reducible exact Below.refl _ _ | (with_reducible refine bel_next ?_ ?_ (by assumption)) | (with_reducible refine Below.alloc ?_ ?_ _) | (with_reducible refine Below.drew ?_) | (with_reducible refine below_drewN ?_ _) | (with_reducible refine Below.setCell ?_ ?_ _))) <;> (first | omega | (simp; done) | (simp; omega)))) (H2.out.rd.below (by (repeat (first | with_reducible exact Below.refl _ _ | (with_reducible refine bel_next ?_ ?_ (by assumption)) | (with_reducible refine Below.alloc ?_ ?_ _) | (with_reducible refine Below.drew ?_) | (with_reducible refine below_drewN ?_ _) | (with_reducible refine Below.setCell ?_ ?_ _))) <;> (first | omega | (simp; done) | (simp; omega)))) H5.out HXS.out.symm (by omega) HML.out (HRI.out.below (by (repeat (first | with_reducible exact Below.refl _ _ | (with_reducible refine bel_next ?_ ?_ (by assumption)) | (with_reducible refine Below.alloc ?_ ?_ _) | (with_reducible refine Below.drew ?_) | (with_reducible refine below_drewN ?_ _) | (with_reducible refine Below.setCell ?_ ?_ _))) <;> (first | omega | (simp; done) | (simp; omega))))).mono ?_; rintro e w5 ⟨g1, d1, g2, d2, rfl, ho1, ho2, hne, hb5⟩; have z5 := hb5.size; (try simp at z5); have y5 : w4.heap.size < w5.heap.size := (by omega); have ge1 := ho1.ge; have ge2 := ho2.ge; (try simp at ge1); (try simp at ge2); have k5_0 := bel_keeps hb5 (b := w4.heap.size) (o := 0) (v := .slice a1 rs'.length e1) (by first | (go_simp; done) | assumption); have k5_1 := bel_keeps hb5 (b := w4.heap.size) (o := 1) (v := .slice a2' os.length e2') (by first | (go_simp; done) | assumption); have g5_0 := bel_free hb5 (b := w4.heap.size) (o := 0) (by first | omega | (simp; done) | (simp; omega)) (by first | (go_simp; done) | assumption); have g5_1 := bel_free hb5 (b := w4.heap.size) (o := 1) (by first | omega | (simp; done) | (simp; omega)) (by first | (go_simp; done) | assumption))
      all_goals go_wp2_with fail
      all_goals go_roundw
      all_goals first
        | (show _ < _; simp [intOf]; omega)
        | (refine ⟨k + 1, stepRegs rs' os ⟨op, dst, sa, sb, sc, sn⟩ xss, stepOuts rs' os ⟨op, dst, sa, sb, sc, sn⟩ xss, some ⟨g1, 0, none⟩, some ⟨g2, 0, none⟩, d1, d2, by omega, by go_num, HSN.out.symm, (by first | (go_simp; done) | assumption), (by first | (go_simp; done) | assumption), (by first | (go_simp; done) | assumption), (by first | (go_simp; done) | assumption), (ho1.later (by (repeat (first | with_reducible exact Kp.refl _ _ | (with_reducible refine Kp.rng ?_ (by assumption) ?_) | (with_reducible refine Kp.below ?_ (by assumption)) | (with_reducible refine Kp.grown ?_ (by assumption) ?_) | (with_reducible refine Kp.alloc ?_ _) | (with_reducible refine Kp.drew ?_) | (with_reducible refine Kp.drewN ?_ _) | (with_reducible refine Kp.setCell ?_ _ ?_))) <;> (first | omega | (simp; done) | (simp; omega)))).rd, (ho2.lo (by first | omega | (simp; done) | (simp; omega))).later (by (repeat (first | with_reducible exact Kp.refl _ _ | (with_reducible refine Kp.rng ?_ (by assumption) ?_) | (with_reducible refine Kp.below ?_ (by assumption)) | (with_reducible refine Kp.grown ?_ (by assumption) ?_) | (with_reducible refine Kp.alloc ?_ _) | (with_reducible refine Kp.drew ?_) | (with_reducible refine Kp.drewN ?_ _) | (with_reducible refine Kp.setCell ?_ _ ?_))) <;> (first | omega | (simp; done) | (simp; omega))), ?_, ?_, (by (repeat (first | with_reducible exact Below.refl _ _ | (with_reducible refine bel_next ?_ ?_ (by assumption)) | (with_reducible refine Below.alloc ?_ ?_ _) | (with_reducible refine Below.drew ?_) | (with_reducible refine below_drewN ?_ _) | (with_reducible refine Below.setCell ?_ ?_ _))) <;> (first | omega | (simp; done) | (simp; omega))), by first | omega | (simp [World.setCell]; omega)⟩ <;> (intro a h; obtain rfl : _ = a := Option.some.inj h; simp; omega))
    · have HK : Hid (D = os) := by
        show _ = _
        have := HF.out
        rw [List.take_of_length_le (by omega)] at this
        rw [HD2.out, ← this]
      go_wp2_with fail
      refine (sameInts_same D D.length os.length rfl (by rw [HK.out]) _ _ _ _ _ (by omega) (HO3.out.rd.below (by (repeat (first | with_reducible exact Below.refl _ _ | (with_reducible refine bel_next ?_ ?_ (by assumption)) | (with_reducible refine Below.alloc ?_ ?_ _) | (with_reducible refine Below.drew ?_) | (with_reducible refine below_drewN ?_ _) | (with_reducible refine Below.setCell ?_ ?_ _))) <;> (first | omega | (simp; done) | (simp; omega)))) (by rw [HK.out]; exact H2.out.rd)).mono ?_
      rintro e _ ⟨rfl, m5, rfl⟩
      go_wp2_with fail
      refine (iOutputCount_any l U _ HU.out _ _ _ hlM hncp hcm (HL.out.below (by (repeat (first | with_reducible exact Below.refl _ _ | (with_reducible refine bel_next ?_ ?_ (by assumption)) | (with_reducible refine Below.alloc ?_ ?_ _) | (with_reducible refine Below.drew ?_) | (with_reducible refine below_drewN ?_ _) | (with_reducible refine Below.setCell ?_ ?_ _))) <;> (first | omega | (simp; done) | (simp; omega))))).mono ?_
      rw [← HQ.out]
      rintro e w6 ⟨rfl, hb6⟩
      have z6 := hb6.size
      go_wp2_with fail
      go_ret
      exact ⟨rfl, (by (repeat (first | with_reducible exact Below.refl _ _ | (with_reducible refine bel_next ?_ ?_ (by assumption)) | (with_reducible refine Below.alloc ?_ ?_ _) | (with_reducible refine Below.drew ?_) | (with_reducible refine below_drewN ?_ _) | (with_reducible refine Below.setCell ?_ ?_ _))) <;> (first | omega | (simp; done) | (simp; omega)))⟩
end Go.Proofs.Ytfeffofoofmgcaa

/- LawNon -/
namespace Go.Proofs.Ytfeffofoofmgcaa
open Go.RowKit
set_option linter.unusedVariables false
set_option linter.unusedSimpArgs false

set_option maxRecDepth 20000 in
set_option maxHeartbeats 8000000 in
theorem walk_FnNoninterference (w : World) (xs : List Int) (ad : Option Addr) (c : Nat) (hm : xs.length ≤ maxLen) (hr : RdC w ad (xs.map (Value.int .u8))) (hb : ∀ x ∈ xs, 0 ≤ x ∧ x ≤ 255) :
    Calls Try.prog 18 #[.slice ad xs.length c] w fun e w' => e = .returned (.bool true) ∧ Below w.heap.size w w' := by
  unfold maxLen at hm
  by_cases hsz : xs.length ≤ 1048576
  case neg =>
    go_enter Try.func18, Try.ntmps18
    go_wp2_with (first | (go_at_call 65; go_in) | fail)
    go_ret
    exact ⟨rfl, Below.refl _ _⟩
  go_enter Try.func18, Try.ntmps18
  go_wp2_with (first | (go_at_call 65; go_in) | fail)
  refine (DrawRun_any xs ad c w hsz hr hb).mono ?_
  rintro e w1 ⟨gp, cp, ga, ca, l, rs, rfl, hp, hol, hrs5, hin, hrd, hb1⟩
  have hncp : l.length ≤ cp := hol.cap
  have hcm : cp ≤ maxLen := hol.capMax
  obtain ⟨us', hus'⟩ := hp.ur
  have hl40 := hp.len
  have hok : progOk l = true := ur_progOk (ur_mono hus' (by omega)) hl40
  obtain ⟨r2, hr2⟩ := hp.two
  have hl2 : 2 ≤ l.length := by rw [hr2]; simp
  have HOK := Lib.hid hok
  have HP := Lib.hid hp
  have HL := Lib.hid hol.rd
  have hlM : l.length ≤ maxLen := by unfold maxLen; omega
  have z1 := hb1.size
  have ge1 := hol.ge
  have H5 := Lib.hid hrs5
  have HIN := Lib.hid hin
  have HRI := Lib.hid hrd
  have hmlR : rowsLe rs := fun r hr' => by
    first | (have := (inputsOk_parts hin).2 r hr'; unfold maxLen; omega) | (obtain ⟨k, hk, rfl⟩ := List.getElem_of_mem hr'; have := (inputs_row hin hk).1; unfold maxLen; omega)
  have HML := Lib.hid hmlR
  obtain ⟨xss, hxss⟩ : ∃ x, x = rs.map Rw.xs := ⟨_, rfl⟩
  have HXS := Lib.hid hxss
  clear hp hol hok hr2 hus' hrs5 hin hrd hmlR hxss
  obtain ⟨U, hU, hSZ, hu1, hu0⟩ := unr_one HOK.out
  have HSZ := Lib.hid hSZ
  obtain ⟨u0, ok0, hu, hcase⟩ : ∃ (u0 : List St) (ok0 : Bool), IsUnr l u0 ok0 ∧ ((ok0 = false ∧ 120 < U.length) ∨ (ok0 = true ∧ u0 = U ∧ U.length ≤ 120)) := by
    by_cases h : U.length ≤ 120
    · exact ⟨U, true, hu1 h, .inr ⟨rfl, rfl, h⟩⟩
    · exact ⟨[], false, hu0 (by omega), .inl ⟨rfl, by omega⟩⟩
  have HU := Lib.hid hu
  have HPL := Lib.hid (ur_plains hU)
  have HCASE := Lib.hid hcase
  clear hU hSZ hu1 hu0 hu hcase
  go_wp2_with fail
  refine (DrawPlaces_any xs ad c _ hsz (hr.below (by (repeat (first | with_reducible exact Below.refl _ _ | (with_reducible refine bel_next ?_ ?_ (by assumption)) | (with_reducible refine Below.alloc ?_ ?_ _) | (with_reducible refine Below.drew ?_) | (with_reducible refine below_drewN ?_ _) | (with_reducible refine Below.setCell ?_ ?_ _))) <;> (first | omega | (simp; done) | (simp; omega)))) hb).mono ?_
  rintro e w2 ⟨a', c', rfl, ⟨vs, hvl, hv, hown⟩, hb2⟩
  have z2 := hb2.size
  obtain ⟨gv, hgv, lgv, lgv'⟩ := hown.addr (by omega)
  subst hgv
  obtain ⟨p0, _⟩ := hown.get 0 (by simp; omega)
  have hx0 := hv (vs[0]'(by omega)) (List.getElem_mem _)
  simp only [I64_get vs 0 (by omega)] at p0
  obtain ⟨x0, hx0e⟩ : ∃ x, x = vs[0]'(by omega) := ⟨_, rfl⟩
  rw [← hx0e] at p0 hx0
  have HVS := Lib.hid hown.rd
  have HVL := Lib.hid hvl
  have HVB := Lib.hid hv
  clear hown hv hvl hx0e
  obtain ⟨pt, hpt⟩ := Int.eq_ofNat_of_zero_le (Int.emod_nonneg x0 (show (3 : Int) ≠ 0 by omega))
  have hpt3 : pt < 3 := by have := Int.emod_lt_of_pos x0 (show (0 : Int) < 3 by omega); omega
  go_wp2_with fail
  refine (iOutputDeps_any l u0 ok0 HU.out _ _ _ hlM hncp hcm (HL.out.below (by (repeat (first | with_reducible exact Below.refl _ _ | (with_reducible refine bel_next ?_ ?_ (by assumption)) | (with_reducible refine Below.alloc ?_ ?_ _) | (with_reducible refine Below.drew ?_) | (with_reducible refine below_drewN ?_ _) | (with_reducible refine Below.setCell ?_ ?_ _))) <;> (first | omega | (simp; done) | (simp; omega))))).mono ?_
  rintro e w3 ⟨a3, c3, rfl, ho3, hb3⟩
  have z3 := hb3.size
  have HO3 := Lib.hid ho3.rd
  clear ho3
  go_wp2_with fail
  refine (iRunProgram_n l u0 ok0 HU.out _ _ _ hlM hncp hcm (HL.out.below (by (repeat (first | with_reducible exact Below.refl _ _ | (with_reducible refine bel_next ?_ ?_ (by assumption)) | (with_reducible refine Below.alloc ?_ ?_ _) | (with_reducible refine Below.drew ?_) | (with_reducible refine below_drewN ?_ _) | (with_reducible refine Below.setCell ?_ ?_ _))) <;> (first | omega | (simp; done) | (simp; omega)))) rs 5 xss _ _ H5.out HXS.out.symm (by omega) HML.out (HRI.out.below (by (repeat (first | with_reducible exact Below.refl _ _ | (with_reducible refine bel_next ?_ ?_ (by assumption)) | (with_reducible refine Below.alloc ?_ ?_ _) | (with_reducible refine Below.drew ?_) | (with_reducible refine below_drewN ?_ _) | (with_reducible refine Below.setCell ?_ ?_ _))) <;> (first | omega | (simp; done) | (simp; omega))))).mono ?_
  rintro e w4 ⟨a4, c4, rfl, ho4, hb4⟩
  have z4 := hb4.size
  have HO4 := Lib.hid ho4.rd
  clear ho4
  have p4 := bel_keeps hb4 (bel_keeps hb3 p0)
  go_wp2_with fail
  try simp only [hpt]
  go_loopw [11, 12] (fun v i wr => ∃ (k go co : Nat) (rr : List Rw), k ≤ 5 ∧ i = .int .i64 k ∧ v = .slice (some ⟨go, 0, none⟩) k co ∧ rr.length = k ∧ (∀ r ∈ rr, RowAt w4 wr go r) ∧ (∀ j, j < k → j ≠ pt → (rs.map Rw.xs).getD j [] = (rr.map Rw.xs).getD j []) ∧
      Own wr w4.heap.size 29 1 (some ⟨go, 0, none⟩) k co (rr.map Rw.val) ∧ Below w4.heap.size w4 wr) (fun _ i _ => 5 - (intOf i).toNat)
  case atStart => exact ⟨0, w4.heap.size, 0, [], Nat.zero_le _, rfl, rfl, rfl, (by intro r hr; cases hr), (by intro j hj; omega), own_new w4 29 1, (by (repeat (first | with_reducible exact Below.refl _ _ | (with_reducible refine bel_next ?_ ?_ (by assumption)) | (with_reducible refine Below.alloc ?_ ?_ _) | (with_reducible refine Below.drew ?_) | (with_reducible refine below_drewN ?_ _) | (with_reducible refine Below.setCell ?_ ?_ _))) <;> (first | omega | (simp; done) | (simp; omega)))⟩
  case round =>
    obtain ⟨k, go, co, rr, hk, rfl, rfl, hrl, hrows, hagr, hown, hbw⟩ := hrel
    have zw := hbw.size
    have geo := hown.ge
    have HRL := Lib.hid hrl
    have HROWS := Lib.hid hrows
    have HAGR := Lib.hid hagr
    have HOWN := Lib.hid hown
    clear hrl hrows hagr hown
    by_cases hlt : k < 5
    · obtain ⟨bi, oi, hai, hci, hrw⟩ := (show RdR wr (some ⟨ga, 0, none⟩) rs from HRI.out.below (by (repeat (first | with_reducible exact Below.refl _ _ | (with_reducible refine bel_next ?_ ?_ (by assumption)) | (with_reducible refine Below.alloc ?_ ?_ _) | (with_reducible refine Below.drew ?_) | (with_reducible refine below_drewN ?_ _) | (with_reducible refine Below.setCell ?_ ?_ _))) <;> (first | omega | (simp; done) | (simp; omega)))).at k (by have := H5.out; omega)
      simp only [Option.some.injEq, Addr.mk.injEq, and_true] at hai
      obtain ⟨rfl, rfl⟩ := hai
      have hrow := inputs_row HIN.out (show k < rs.length by have := H5.out; omega)
      have HGK : Hid ((rs.map Rw.xs).getD k [] = (rs[k]'(by have := H5.out; omega)).xs) := by show _ = _; simp [List.getD, List.getElem?_eq_getElem (show k < rs.length by have := H5.out; omega)]
      obtain ⟨r0, hr0⟩ : ∃ r, r = rs[k]'(by have := H5.out; omega) := ⟨_, rfl⟩
      have hci' : wr.cell? ⟨ga, k, none⟩ = some (.slice r0.ad r0.xs.length r0.cap) := by rw [hr0]; have h := hci; simp only [Nat.zero_add] at h; exact h
      rw [← hr0] at hrw hrow HGK
      rw [hrow.1] at hci'
      have HRW := Lib.hid hrw
      have hgl : ga < wr.heap.size := lt_of_cell hci'
      have hgn : ga ≠ wr.heap.size := by omega
      have hk5 : (k : Int) < 5 := by omega
      have hkd : decide ((k : Int) < 5) = true := decide_eq_true hk5
      have HROW := Lib.hid hrow
      have hnone : r0.ad = none → 4 = 0 := fun h => by
        rcases HRW.out with h1 | ⟨b, o, h1, _⟩
        · have hz : r0.xs.length = 0 := (by simpa using congrArg List.length h1)
          have := HROW.out.1
          omega
        · rw [h] at h1; cases h1
      have HNONE := Lib.hid hnone
      clear hci hrw hrow hr0 hnone
      go_wp2_with (refine wpList_appm _ rfl el_int _ _ rfl w4.heap.size wr.heap.size 0 0 [] (I64 r0.xs) r0.ad 4 r0.cap (by rfl) (by rfl) (own_last _ _ _ _ _ rfl (by omega)) (by simp; exact HROW.out.1) (HRW.out.below (by (repeat (first | with_reducible exact Below.refl _ _ | (with_reducible refine bel_next ?_ ?_ (by assumption)) | (with_reducible refine Below.alloc ?_ ?_ _) | (with_reducible refine Below.drew ?_) | (with_reducible refine below_drewN ?_ _) | (with_reducible refine Below.setCell ?_ ?_ _))) <;> (first | omega | (simp; done) | (simp; omega)))) (I64_one _) HNONE.out (by omega) (by omega) (by first | omega | (simp; done) | (simp; omega)) ?_; intro g5 c5 w5 ho5 hb5 hg5 hat5; (try simp at hat5); have z5 := hb5.size; (try simp at z5); have y5 := hg5.size; (try simp at y5); have ge5 := ho5.ge; (try simp only [Nat.zero_add, List.nil_append] at ho5))
      have HO5 := Lib.hid ho5
      have hbb5 : Below w4.heap.size w4 w5 := (by (repeat (first | with_reducible exact Below.refl _ _ | (with_reducible refine bel_next ?_ ?_ (by assumption)) | (with_reducible refine Below.alloc ?_ ?_ _) | (with_reducible refine Below.drew ?_) | (with_reducible refine below_drewN ?_ _) | (with_reducible refine Below.setCell ?_ ?_ _))) <;> (first | omega | (simp; done) | (simp; omega)))
      have p5 := bel_keeps hbb5 p4
      have hgv5 : gv ≠ g5 := by omega
      have HBB5 := Lib.hid hbb5
      clear ho5 hbb5
      try rw [hkd]
      go_loopw [14] (fun q wr => ∃ (q' : Nat) (ys : List Int), q' ≤ 4 ∧ q = .int .i64 q' ∧ ys.length = 4 ∧ allB ys 0 15 = true ∧ (k ≠ pt → ys = r0.xs) ∧ Own wr w4.heap.size 3 1 (some ⟨g5, 0, none⟩) 4 c5 (I64 ys) ∧ Rng g5 (g5 + 1) w5 wr ∧ Below w4.heap.size w4 wr ∧ w5.heap.size ≤ wr.heap.size) (fun q _ => 4 - (intOf q).toNat)
      case atStart => exact ⟨0, r0.xs, Nat.zero_le _, rfl, HROW.out.1, HROW.out.2, fun _ => rfl, HO5.out, fun b _ => Kp.refl b w5, HBB5.out, Nat.le_refl _⟩
      case round =>
        obtain ⟨q', ys, hq4, rfl, hyl, hyb, hye, hoy, hrg, hby, hsz5⟩ := hrel
        have HYL := Lib.hid hyl
        have HYB := Lib.hid hyb
        have HYE := Lib.hid hye
        clear hyl hyb hye
        by_cases hlq : q' < 4
        · by_cases hkp : k = pt
          · have tk : ((k : Int) == (pt : Int)) = true := by simp [hkp]
            obtain ⟨bv, ov, hav, hcv⟩ := (show RdC wr (some ⟨gv, 0, none⟩) (I64 vs) from (HVS.out.below (show Below w2.heap.size w2 w4 from (by (repeat (first | with_reducible exact Below.refl _ _ | (with_reducible refine bel_next ?_ ?_ (by assumption)) | (with_reducible refine Below.alloc ?_ ?_ _) | (with_reducible refine Below.drew ?_) | (with_reducible refine below_drewN ?_ _) | (with_reducible refine Below.setCell ?_ ?_ _))) <;> (first | omega | (simp; done) | (simp; omega))))).keep (fun b off e => by (obtain rfl : gv = b := (by simpa using congrArg Addr.block (Option.some.inj e))); exact (Kp.below (Kp.refl _ _) hby))).at (1 + q') (by have := HVL.out; omega)
            simp only [Option.some.injEq, Addr.mk.injEq, and_true] at hav
            obtain ⟨rfl, rfl⟩ := hav
            have cv := hcv (1 + q') (by have := HVL.out; omega)
            simp only [Nat.zero_add] at cv
            have hxq := HVB.out (vs[1 + q']'(by have := HVL.out; omega)) (List.getElem_mem _)
            generalize vs[1 + q']'_ = xq at cv hxq
            obtain ⟨hxq0, hxq1⟩ := hxq
            obtain ⟨cy, fy⟩ := hoy.get q' (by simp; have := HYL.out; omega)
            generalize (I64 ys)[q']'_ = uy at cy
            have hi4 : (q' : Int) < 4 := by omega
            have hi12 : 1 + (q' : Int) < 12 := by omega
            clear hcv
            have HOY := Lib.hid hoy
            clear hoy
            go_wp2_with fail
            go_roundw
            case rel =>
              have ho := HOY.out.put q' (.int .i64 (xq % 16))
              rw [I64_set] at ho
              exact ⟨q' + 1, ys.set q' (xq % 16), by omega, by go_num, by simp [HYL.out], (by have hh := allB_iff.1 HYB.out; refine allB_iff.2 fun x hx => ?_; rcases List.mem_or_eq_of_mem_set hx with hx | rfl; exact hh x hx; have h1 := Int.emod_nonneg xq (show (16 : Int) ≠ 0 by omega); have h2 := Int.emod_lt_of_pos xq (show (0 : Int) < 16 by omega); omega), fun h => absurd hkp h, ho, fun b hb => (hrg b hb).setCell _ (by show b ≠ g5; omega), (by (repeat (first | with_reducible exact Below.refl _ _ | (with_reducible refine bel_next ?_ ?_ (by assumption)) | (with_reducible refine Below.alloc ?_ ?_ _) | (with_reducible refine Below.drew ?_) | (with_reducible refine below_drewN ?_ _) | (with_reducible refine Below.setCell ?_ ?_ _))) <;> (first | omega | (simp; done) | (simp; omega))), by simp [World.setCell]; omega⟩
            case measure => simp [intOf]; omega
          · have tk : ((k : Int) == (pt : Int)) = false := by simp; omega
            have HOY := Lib.hid hoy
            clear hoy
            go_wp2_with (first | (refine wpList_appm _ rfl el_ints _ _ rfl w4.heap.size go k co (rr.map Rw.val) [.slice (some ⟨g5, 0, none⟩) 4 c5] (some ⟨wr.heap.size, 0, none⟩) 1 1 (by rfl) (by rfl) (HOWN.out.later (by (repeat (first | with_reducible exact Kp.refl _ _ | (with_reducible refine Kp.rng ?_ (by assumption) ?_) | (with_reducible refine Kp.below ?_ (by assumption)) | (with_reducible refine Kp.grown ?_ (by assumption) ?_) | (with_reducible refine Kp.alloc ?_ _) | (with_reducible refine Kp.drew ?_) | (with_reducible refine Kp.drewN ?_ _) | (with_reducible refine Kp.setCell ?_ _ ?_))) <;> (first | omega | (simp; done) | (simp; omega)))) rfl (.inr ⟨wr.heap.size, 0, rfl, fun j hj => by (have : j = 0 := (by simpa using hj)); subst this; go_simp⟩) (by intro u hu; simp at hu; subst hu; rfl) (by intro h; cases h) (by omega) (by omega) (by first | omega | (simp; done) | (simp; omega)) ?_; intro g6 c6 w6 ho6 hb6 hg6 hat6; (try simp at hat6); have z6 := hb6.size; (try simp at z6); have y6 := hg6.size; (try simp at y6); have ge6 := ho6.ge))
            have HNEW : Hid (∀ r ∈ rr ++ [⟨some ⟨g5, 0, none⟩, c5, ys⟩], RowAt w4 w6 g6 r) := by
              intro r hr'
              rcases List.mem_append.1 hr' with hr' | hr'
              · obtain ⟨h1, ⟨b, h2, h3, h4, h5⟩, h6, h7⟩ := HROWS.out r hr'
                have hbg : b ≠ g5 := by omega
                refine ⟨h1.keep fun b' off e => ?_, ⟨b, h2, h3, by omega, by omega⟩, h6, h7⟩
                rw [h2] at e
                obtain rfl : b = b' := by simpa using congrArg Addr.block (Option.some.inj e)
                exact (by (repeat (first | with_reducible exact Kp.refl _ _ | (with_reducible refine Kp.rng ?_ (by assumption) ?_) | (with_reducible refine Kp.below ?_ (by assumption)) | (with_reducible refine Kp.grown ?_ (by assumption) ?_) | (with_reducible refine Kp.alloc ?_ _) | (with_reducible refine Kp.drew ?_) | (with_reducible refine Kp.drewN ?_ _) | (with_reducible refine Kp.setCell ?_ _ ?_))) <;> (first | omega | (simp; done) | (simp; omega)))
              · simp at hr'; subst hr'
                exact ⟨(HOY.out.later (by (repeat (first | with_reducible exact Kp.refl _ _ | (with_reducible refine Kp.rng ?_ (by assumption) ?_) | (with_reducible refine Kp.below ?_ (by assumption)) | (with_reducible refine Kp.grown ?_ (by assumption) ?_) | (with_reducible refine Kp.alloc ?_ _) | (with_reducible refine Kp.drew ?_) | (with_reducible refine Kp.drewN ?_ _) | (with_reducible refine Kp.setCell ?_ _ ?_))) <;> (first | omega | (simp; done) | (simp; omega)))).rd, ⟨g5, rfl, by omega, by omega, by omega⟩, HYL.out, HYB.out⟩
            have HAG2 : Hid (∀ j, j < k + 1 → j ≠ pt → (rs.map Rw.xs).getD j [] = ((rr ++ [(⟨some ⟨g5, 0, none⟩, c5, ys⟩ : Rw)]).map Rw.xs).getD j []) := by
              intro j hj hjp
              by_cases hjk : j < k
              · rw [HAGR.out j hjk hjp]
                simp only [List.map_append, List.getD]
                rw [List.getElem?_append_left (by simp [HRL.out, hjk])]
              · obtain rfl : j = k := by omega
                rw [HGK.out, HYE.out hjp |>.symm]
                simp only [List.map_append, List.getD]
                rw [List.getElem?_append_right (by simp [HRL.out])]
                simp [HRL.out]
            go_wp2_with fail
            go_roundw
            case rel => exact ⟨k + 1, g6, c6, rr ++ [⟨some ⟨g5, 0, none⟩, c5, ys⟩], by omega, by go_num, rfl, by simp [HRL.out], HNEW.out, HAG2.out, (by have := ho6; simpa [Rw.val, HYL.out] using this), (by (repeat (first | with_reducible exact Below.refl _ _ | (with_reducible refine bel_next ?_ ?_ (by assumption)) | (with_reducible refine Below.alloc ?_ ?_ _) | (with_reducible refine Below.drew ?_) | (with_reducible refine below_drewN ?_ _) | (with_reducible refine Below.setCell ?_ ?_ _))) <;> (first | omega | (simp; done) | (simp; omega)))⟩
            case measure => simp [intOf]; omega
        · obtain rfl : q' = 4 := by omega
          have HOY := Lib.hid hoy
          clear hoy
          go_wp2_with (first | (refine wpList_appm _ rfl el_ints _ _ rfl w4.heap.size go k co (rr.map Rw.val) [.slice (some ⟨g5, 0, none⟩) 4 c5] (some ⟨wr.heap.size, 0, none⟩) 1 1 (by rfl) (by rfl) (HOWN.out.later (by (repeat (first | with_reducible exact Kp.refl _ _ | (with_reducible refine Kp.rng ?_ (by assumption) ?_) | (with_reducible refine Kp.below ?_ (by assumption)) | (with_reducible refine Kp.grown ?_ (by assumption) ?_) | (with_reducible refine Kp.alloc ?_ _) | (with_reducible refine Kp.drew ?_) | (with_reducible refine Kp.drewN ?_ _) | (with_reducible refine Kp.setCell ?_ _ ?_))) <;> (first | omega | (simp; done) | (simp; omega)))) rfl (.inr ⟨wr.heap.size, 0, rfl, fun j hj => by (have : j = 0 := (by simpa using hj)); subst this; go_simp⟩) (by intro u hu; simp at hu; subst hu; rfl) (by intro h; cases h) (by omega) (by omega) (by first | omega | (simp; done) | (simp; omega)) ?_; intro g6 c6 w6 ho6 hb6 hg6 hat6; (try simp at hat6); have z6 := hb6.size; (try simp at z6); have y6 := hg6.size; (try simp at y6); have ge6 := ho6.ge))
          have HNEW : Hid (∀ r ∈ rr ++ [⟨some ⟨g5, 0, none⟩, c5, ys⟩], RowAt w4 w6 g6 r) := by
            intro r hr'
            rcases List.mem_append.1 hr' with hr' | hr'
            · obtain ⟨h1, ⟨b, h2, h3, h4, h5⟩, h6, h7⟩ := HROWS.out r hr'
              have hbg : b ≠ g5 := by omega
              refine ⟨h1.keep fun b' off e => ?_, ⟨b, h2, h3, by omega, by omega⟩, h6, h7⟩
              rw [h2] at e
              obtain rfl : b = b' := by simpa using congrArg Addr.block (Option.some.inj e)
              exact (by (repeat (first | with_reducible exact Kp.refl _ _ | (with_reducible refine Kp.rng ?_ (by assumption) ?_) | (with_reducible refine Kp.below ?_ (by assumption)) | (with_reducible refine Kp.grown ?_ (by assumption) ?_) | (with_reducible refine Kp.alloc ?_ _) | (with_reducible refine Kp.drew ?_) | (with_reducible refine Kp.drewN ?_ _) | (with_reducible refine Kp.setCell ?_ _ ?_))) <;> (first | omega | (simp; done) | (simp; omega)))
            · simp at hr'; subst hr'
              exact ⟨(HOY.out.later (by (repeat (first | with_reducible exact Kp.refl _ _ | (with_reducible refine Kp.rng ?_ (by assumption) ?_) | (with_reducible refine Kp.below ?_ (by assumption)) | (with_reducible refine Kp.grown ?_ (by assumption) ?_) | (with_reducible refine Kp.alloc ?_ _) | (with_reducible refine Kp.drew ?_) | (with_reducible refine Kp.drewN ?_ _) | (with_reducible refine Kp.setCell ?_ _ ?_))) <;> (first | omega | (simp; done) | (simp; omega)))).rd, ⟨g5, rfl, by omega, by omega, by omega⟩, HYL.out, HYB.out⟩
          have HAG2 : Hid (∀ j, j < k + 1 → j ≠ pt → (rs.map Rw.xs).getD j [] = ((rr ++ [(⟨some ⟨g5, 0, none⟩, c5, ys⟩ : Rw)]).map Rw.xs).getD j []) := by
            intro j hj hjp
            by_cases hjk : j < k
            · rw [HAGR.out j hjk hjp]
              simp only [List.map_append, List.getD]
              rw [List.getElem?_append_left (by simp [HRL.out, hjk])]
            · obtain rfl : j = k := by omega
              rw [HGK.out, HYE.out hjp |>.symm]
              simp only [List.map_append, List.getD]
              rw [List.getElem?_append_right (by simp [HRL.out])]
              simp [HRL.out]
          go_wp2_with fail
          go_roundw
          case rel => exact ⟨k + 1, g6, c6, rr ++ [⟨some ⟨g5, 0, none⟩, c5, ys⟩], by omega, by go_num, rfl, by simp [HRL.out], HNEW.out, HAG2.out, (by have := ho6; simpa [Rw.val, HYL.out] using this), (by (repeat (first | with_reducible exact Below.refl _ _ | (with_reducible refine bel_next ?_ ?_ (by assumption)) | (with_reducible refine Below.alloc ?_ ?_ _) | (with_reducible refine Below.drew ?_) | (with_reducible refine below_drewN ?_ _) | (with_reducible refine Below.setCell ?_ ?_ _))) <;> (first | omega | (simp; done) | (simp; omega)))⟩
          case measure => simp [intOf]; omega
    · obtain rfl : k = 5 := by omega
      have hin2 : inputsOk (rr.map Rw.xs) = true := by
        simp only [inputsOk, rowsOk, Bool.and_eq_true, List.all_eq_true, List.mem_map]
        refine ⟨?_, by simp [HRL.out]⟩
        rintro _ ⟨r, hr', rfl⟩
        have := HROWS.out r hr'
        simp [rowOk, this.len, this.ok]
      have HIN2 := Lib.hid hin2
      have HRR : Hid (RdR wr (some ⟨go, 0, none⟩) rr) := ⟨HOWN.out.rd, fun r hr' => (HROWS.out r hr').rd⟩
      have HML2 : Hid (rowsLe rr) := fun r hr' => by have := (HROWS.out r hr').len; unfold maxLen; omega
      have hagj : ∀ j, j ≠ pt → (rs.map Rw.xs).getD j [] = (rr.map Rw.xs).getD j [] := by
        intro j hj
        by_cases h5 : j < 5
        · exact HAGR.out j h5 hj
        · simp only [List.getD]
          rw [List.getElem?_eq_none (by simp [H5.out]; omega), List.getElem?_eq_none (by simp [HRL.out]; omega)]
      have HAGJ := Lib.hid hagj
      have HIN1 : Hid (inputsOk xss = true) := by show _ = _; rw [HXS.out]; exact HIN.out
      obtain ⟨yss, hyss⟩ : ∃ x, x = rr.map Rw.xs := ⟨_, rfl⟩
      have HYS := Lib.hid hyss
      have HIN3 : Hid (inputsOk yss = true) := by show _ = _; rw [hyss]; exact hin2
      clear hin2 hagj hyss
      have HRC : Hid (∀ (u0 : List St) (ok0 : Bool), IsUnr l u0 ok0 → Calls Try.prog 64 #[.slice (some ⟨gp, 0, none⟩) l.length cp, .slice (some ⟨go, 0, none⟩) 5 co] wr fun e w' => ∃ a c, e = .returned (.tuple #[.slice a (runOuts u0 yss ok0).length c, .bool (runOk ok0 yss)]) ∧ Own w' wr.heap.size 3 1 a (runOuts u0 yss ok0).length c (I64 (runOuts u0 yss ok0)) ∧ Below wr.heap.size wr w') := fun u0 ok0 hu =>
        iRunProgram_n l u0 ok0 hu _ _ _ hlM hncp hcm (HL.out.below (by (repeat (first | with_reducible exact Below.refl _ _ | (with_reducible refine bel_next ?_ ?_ (by assumption)) | (with_reducible refine Below.alloc ?_ ?_ _) | (with_reducible refine Below.drew ?_) | (with_reducible refine below_drewN ?_ _) | (with_reducible refine Below.setCell ?_ ?_ _))) <;> (first | omega | (simp; done) | (simp; omega)))) rr 5 yss _ _ HRL.out HYS.out.symm (by omega) HML2.out HRR.out
      rcases HCASE.out with ⟨hok0, h120⟩ | ⟨hok0, hu0, h120⟩
      · subst hok0
        have t0 : decide ((120 : Int) < (U.length : Int)) = true := decide_eq_true (by omega)
        go_wp2_with fail
        refine (HRC.out u0 false HU.out).mono ?_
        rintro e w7 ⟨a7, c7, rfl, ho7, hb7⟩
        have z7 := hb7.size
        clear ho7
        go_wp2_with fail
        refine (iUnrolledSize_any l _ HSZ.out _ _ _ hlM hncp hcm (HL.out.below (by (repeat (first | with_reducible exact Below.refl _ _ | (with_reducible refine bel_next ?_ ?_ (by assumption)) | (with_reducible refine Below.alloc ?_ ?_ _) | (with_reducible refine Below.drew ?_) | (with_reducible refine below_drewN ?_ _) | (with_reducible refine Below.setCell ?_ ?_ _))) <;> (first | omega | (simp; done) | (simp; omega))))).mono ?_
        rintro e w8 ⟨rfl, hb8⟩
        have z8 := hb8.size
        go_wp2_with fail
        go_ret
        exact ⟨rfl, (by (repeat (first | with_reducible exact Below.refl _ _ | (with_reducible refine bel_next ?_ ?_ (by assumption)) | (with_reducible refine Below.alloc ?_ ?_ _) | (with_reducible refine Below.drew ?_) | (with_reducible refine below_drewN ?_ _) | (with_reducible refine Below.setCell ?_ ?_ _))) <;> (first | omega | (simp; done) | (simp; omega)))⟩
      · subst hok0; subst hu0
        have hsim := sim_fold hpt3 HIN.out HIN2.out HAGJ.out u0 HPL.out
        rw [← HXS.out, ← HYS.out] at hsim
        have hfl := flowF_all u0 HPL.out
        obtain ⟨D, hD⟩ : ∃ d, d = outDeps u0 true := ⟨_, rfl⟩
        have hD2 : D = (flowF u0).2 := by rw [hD]; simp [outDeps]
        obtain ⟨A, hA⟩ : ∃ d, d = runOuts u0 xss true := ⟨_, rfl⟩
        have hA2 : A = (runF u0 xss).2 := by rw [hA]; simp [runOuts, runOk, HIN1.out]
        obtain ⟨B, hB⟩ : ∃ d, d = runOuts u0 yss true := ⟨_, rfl⟩
        have hB2 : B = (runF u0 yss).2 := by rw [hB]; simp [runOuts, runOk, HIN3.out]
        have hAl : A.length = D.length := by rw [hA2, hD2]; exact hsim.l1
        have hBl : B.length = D.length := by rw [hB2, hD2]; exact hsim.l2
        have hDm : D.length ≤ 120 := by rw [hD2, hfl.2]; exact Nat.le_trans (cntOut_le u0) h120
        have HOUT : Hid (∀ i, bp pt (D.getD i 0) = 0 → A.getD i 0 = B.getD i 0) := by rw [hD2, hA2, hB2]; exact hsim.outs
        have hF := flows_self (d := D) (by rw [hD2]; exact hfl.1)
        have HF := Lib.hid hF
        have tA : ((A.length : Int) != (D.length : Int)) = false := by simp; omega
        have tB : ((B.length : Int) != (D.length : Int)) = false := by simp; omega
        have HAl := Lib.hid hAl
        have HBl := Lib.hid hBl
        have HD := Lib.hid hD
        have HA := Lib.hid hA
        have HB := Lib.hid hB
        have HRO : Hid (runOk true xss = true) := by show _ = _; simp [runOk, HIN1.out]
        have HDm := Lib.hid hDm
        have hda : D.length ≤ A.length := by omega
        have hdb : D.length ≤ B.length := by omega
        clear hsim hfl hD2 hA2 hB2 hF hAl hBl
        rw [← HD.out, ← HA.out, HRO.out]
        rw [← HD.out] at HO3
        rw [← HA.out] at HO4
        clear hD hA hB
        go_wp2_with fail
        refine (HRC.out u0 true HU.out).mono ?_
        rw [← HB.out]
        rintro e w7 ⟨a7, c7, rfl, ho7, hb7⟩
        have z7 := hb7.size
        have HO7 := Lib.hid ho7.rd
        clear ho7
        go_wp2_with fail
        go_loopw [17] (fun i wr => ∃ q : Nat, q ≤ D.length ∧ i = .int .i64 q ∧ Below w7.heap.size w7 wr) (fun i _ => D.length - (intOf i).toNat)
        case atStart => exact ⟨0, Nat.zero_le _, rfl, Below.refl _ _⟩
        case round =>
          obtain ⟨q, hq, rfl, hbq⟩ := hrel
          have zq := hbq.size
          by_cases hlq : q < D.length
          · obtain ⟨b1, o1, rfl, hc1⟩ := (show RdC wr a3 (I64 D) from HO3.out.below (by (repeat (first | with_reducible exact Below.refl _ _ | (with_reducible refine bel_next ?_ ?_ (by assumption)) | (with_reducible refine Below.alloc ?_ ?_ _) | (with_reducible refine Below.drew ?_) | (with_reducible refine below_drewN ?_ _) | (with_reducible refine Below.setCell ?_ ?_ _))) <;> (first | omega | (simp; done) | (simp; omega)))).at q hlq
            obtain ⟨b2, o2, rfl, hc2⟩ := (show RdC wr a4 (I64 A) from HO4.out.below (by (repeat (first | with_reducible exact Below.refl _ _ | (with_reducible refine bel_next ?_ ?_ (by assumption)) | (with_reducible refine Below.alloc ?_ ?_ _) | (with_reducible refine Below.drew ?_) | (with_reducible refine below_drewN ?_ _) | (with_reducible refine Below.setCell ?_ ?_ _))) <;> (first | omega | (simp; done) | (simp; omega)))).at q (by omega)
            obtain ⟨b3, o3, rfl, hc3⟩ := (show RdC wr a7 (I64 B) from HO7.out.below hbq).at q (by omega)
            have q1 := hc1 q hlq
            have q2 := hc2 q (by omega)
            have q3 := hc3 q (by omega)
            have hout := HOUT.out q
            rw [show D.getD q 0 = D[q] by simp [List.getD, List.getElem?_eq_getElem hlq], show A.getD q 0 = A[q]'(by omega) by simp [List.getD, List.getElem?_eq_getElem (show q < A.length by omega)], show B.getD q 0 = B[q]'(by omega) by simp [List.getD, List.getElem?_eq_getElem (show q < B.length by omega)]] at hout
            obtain ⟨x, hx⟩ : ∃ x, x = D[q] := ⟨_, rfl⟩
            obtain ⟨y, hy⟩ : ∃ x, x = A[q]'(by omega) := ⟨_, rfl⟩
            obtain ⟨z, hz⟩ : ∃ x, x = B[q]'(by omega) := ⟨_, rfl⟩
            rw [← hx] at q1 hout
            rw [← hy] at q2 hout
            rw [← hz] at q3 hout
            have hi1 : (q : Int) < (D.length : Int) := by omega
            have hi2 : (q : Int) < (A.length : Int) := by omega
            have hi3 : (q : Int) < (B.length : Int) := by omega
            clear hc1 hc2 hc3 hx hy hz
            by_cases hb0 : bits .and .i64 (x / 2 ^ pt) 1 = 0
            · obtain rfl : y = z := hout hb0
              have t1 : (bits .and .i64 (x / 2 ^ pt) 1 == 0) = true := by simp [hb0]
              have t2 : (y != y) = false := by simp
              clear hout hb0
              go_wp2_with fail
              go_quiet (fail)
              go_wp2_with fail
              go_roundw
              case rel => exact ⟨q + 1, by omega, by go_num, below_drewN hbq nq⟩
              case measure => simp [intOf]; omega
            · have t1 : (bits .and .i64 (x / 2 ^ pt) 1 == 0) = false := by simp [hb0]
              clear hout hb0
              go_wp2_with fail
              go_quiet (fail)
              go_wp2_with fail
              go_roundw
              case rel => exact ⟨q + 1, by omega, by go_num, below_drewN hbq nq⟩
              case measure => simp [intOf]; omega
          · go_wp2_with fail
            refine (iFlowOk_n l u0 true HU.out _ _ D D.length rfl a3 c3 _ hlM hncp hcm (HL.out.below (by (repeat (first | with_reducible exact Below.refl _ _ | (with_reducible refine bel_next ?_ ?_ (by assumption)) | (with_reducible refine Below.alloc ?_ ?_ _) | (with_reducible refine Below.drew ?_) | (with_reducible refine below_drewN ?_ _) | (with_reducible refine Below.setCell ?_ ?_ _))) <;> (first | omega | (simp; done) | (simp; omega)))) (by have := HDm.out; unfold maxLen; omega) (HO3.out.below (by (repeat (first | with_reducible exact Below.refl _ _ | (with_reducible refine bel_next ?_ ?_ (by assumption)) | (with_reducible refine Below.alloc ?_ ?_ _) | (with_reducible refine Below.drew ?_) | (with_reducible refine below_drewN ?_ _) | (with_reducible refine Below.setCell ?_ ?_ _))) <;> (first | omega | (simp; done) | (simp; omega))))).mono ?_
            rw [← HD.out, HF.out]
            rintro e w9 ⟨rfl, hb9⟩
            have z9 := hb9.size
            go_wp2_with fail
            go_ret
            exact ⟨rfl, (by (repeat (first | with_reducible exact Below.refl _ _ | (with_reducible refine bel_next ?_ ?_ (by assumption)) | (with_reducible refine Below.alloc ?_ ?_ _) | (with_reducible refine Below.drew ?_) | (with_reducible refine below_drewN ?_ _) | (with_reducible refine Below.setCell ?_ ?_ _))) <;> (first | omega | (simp; done) | (simp; omega)))⟩
end Go.Proofs.Ytfeffofoofmgcaa

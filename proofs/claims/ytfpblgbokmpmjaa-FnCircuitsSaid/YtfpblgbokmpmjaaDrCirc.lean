/- A drawn circuit. -/
import Derived.Test.YtfpblgbokmpmjaaDraw
import Derived.Test.YtfpblgbokmpmjaaAppZ
import Derived.Test.YtfpblgbokmpmjaaEvP
import Derived.Deep.RegionHeld3
import Derived.Deep.RegionLaw
namespace Go.Proofs.Ytfpblgbokmpmjaa
open Go.RowKit
set_option linter.unusedVariables false
set_option linter.unusedSimpArgs false

theorem kp_of_lt {b : Nat} {w w' : World} (h : b < w.heap.size → Kp b w w') : Kp b w w' := fun hb => h hb hb
theorem gateOk_in {a : Int} {k : Int} (h0 : 0 ≤ a) (h1 : a < 20) : gateOk 1 a 0 k = true := by simp [gateOk, inB]; omega
theorem gateOk_cn {a : Int} {k : Int} (h0 : 0 ≤ a) (h1 : a < 2) : gateOk 2 a 0 k = true := by simp [gateOk, inB]; omega
theorem gateOk_two {kd a b k : Int} (h : kd = 3 ∨ kd = 4) (h0 : 0 ≤ a) (h1 : a < k) (h2 : 0 ≤ b) (h3 : b < k) : gateOk kd a b k = true := by rcases h with rfl | rfl <;> simp [gateOk] <;> omega
theorem gateOk_not {a k : Int} (h0 : 0 ≤ a) (h1 : a < k) : gateOk 5 a 0 k = true := by simp [gateOk]; omega

set_option maxRecDepth 20000 in
set_option maxHeartbeats 8000000 in
theorem l13Gate_dr (g : Nat) (xs : List Int) (ad : Option Addr) (c : Nat) (n : Nat) (w : World) (hn : n ≤ 1000) (hd : Dr w g xs ad c) :
    Calls Try.prog 94 #[.pointer (some ⟨g, 0, none⟩), .int .i64 n] w fun e w' => ∃ kd ga gb : Int, e = .returned (.agg #[.int .i64 kd, .int .i64 ga, .int .i64 gb]) ∧ gateOk kd ga gb n = true ∧ Dr w' g xs ad c ∧ Only g w w' := by
  have hgt := hd.gt
  by_cases hn0 : n = 0
  case pos =>
    subst hn0
    go_enter Try.func94, Try.ntmps94
    go_wp2_with fail
    refine (below_dr g xs ad c 7 _ (hd.keep fun q hq => (by (repeat (first | with_reducible exact Kp.refl _ _ | (with_reducible refine Kp.rng ?_ (by assumption) ?_) | (with_reducible refine Kp.below ?_ (by assumption)) | (with_reducible refine Kp.grown ?_ (by assumption) ?_) | (with_reducible refine Kp.alloc ?_ _) | (with_reducible refine Kp.drew ?_) | (with_reducible refine Kp.drewN ?_ _) | (with_reducible refine Kp.setCell ?_ _ ?_))) <;> (first | omega | (simp; done) | (simp; omega))))).mono ?_
    rintro e w1 ⟨v, rfl, v0, v1, _, hd1, ob1, or1⟩
    have v1 := v1 (by omega)
    have z1 := ob1.size
    (try simp at z1)
    have k1_0 : w1.cell? ⟨w.heap.size, 0, none⟩ = some (.int .i64 0) := or1.keeps (by omega) (by go_simp)
    have k1_1 : w1.cell? ⟨w.heap.size, 1, none⟩ = some (.int .i64 0) := or1.keeps (by omega) (by go_simp)
    have k1_2 : w1.cell? ⟨w.heap.size, 2, none⟩ = some (.int .i64 0) := or1.keeps (by omega) (by go_simp)
    have f1_0 : w1.frozen? ⟨w.heap.size, 0, none⟩ = false := or1.free (by omega) (by first | omega | (simp; done) | (simp; omega)) (by go_simp)
    have f1_1 : w1.frozen? ⟨w.heap.size, 1, none⟩ = false := or1.free (by omega) (by first | omega | (simp; done) | (simp; omega)) (by go_simp)
    have f1_2 : w1.frozen? ⟨w.heap.size, 2, none⟩ = false := or1.free (by omega) (by first | omega | (simp; done) | (simp; omega)) (by go_simp)
    have hv : v = 0 ∨ v = 1 ∨ v = 2 ∨ v = 3 ∨ v = 4 ∨ v = 5 ∨ v = 6 := by omega
    rcases hv with rfl | rfl | rfl | rfl | rfl | rfl | rfl
    · go_wp2_with fail
      refine (below_dr g xs ad c 20 _ (hd1.keep fun q hq => (by (repeat (first | with_reducible exact Kp.refl _ _ | (with_reducible refine Kp.rng ?_ (by assumption) ?_) | (with_reducible refine Kp.below ?_ (by assumption)) | (with_reducible refine Kp.grown ?_ (by assumption) ?_) | (with_reducible refine Kp.alloc ?_ _) | (with_reducible refine Kp.drew ?_) | (with_reducible refine Kp.drewN ?_ _) | (with_reducible refine Kp.setCell ?_ _ ?_))) <;> (first | omega | (simp; done) | (simp; omega))))).mono ?_
      rintro e w2 ⟨a, rfl, a0, a1, _, hd2, ob2, or2⟩
      have a1 := a1 (by omega)
      have z2 := ob2.size
      (try simp at z2)
      have k2_0 : w2.cell? ⟨w.heap.size, 0, none⟩ = some (.int .i64 0) := or2.keeps (by omega) (by go_simp)
      have f2_0 : w2.frozen? ⟨w.heap.size, 0, none⟩ = false := or2.free (by omega) (by first | omega | (simp; done) | (simp; omega)) (by go_simp)
      have k2_1 : w2.cell? ⟨w.heap.size, 1, none⟩ = some (.int .i64 0) := or2.keeps (by omega) (by go_simp)
      have f2_1 : w2.frozen? ⟨w.heap.size, 1, none⟩ = false := or2.free (by omega) (by first | omega | (simp; done) | (simp; omega)) (by go_simp)
      have k2_2 : w2.cell? ⟨w.heap.size, 2, none⟩ = some (.int .i64 0) := or2.keeps (by omega) (by go_simp)
      have f2_2 : w2.frozen? ⟨w.heap.size, 2, none⟩ = false := or2.free (by omega) (by first | omega | (simp; done) | (simp; omega)) (by go_simp)
      clear k1_0 k1_1 k1_2 f1_0 f1_1 f1_2
      go_wp2_with fail
      refine bodyPost_ret (v := .agg #[.int .i64 1, .int .i64 a, .int .i64 0]) (by simp [results, Try.results94, go_sem, *]) rfl ⟨1, a, 0, rfl, gateOk_in a0 a1, hd2.keep fun q hq => (by (repeat (first | with_reducible exact Kp.refl _ _ | (with_reducible refine Kp.rng ?_ (by assumption) ?_) | (with_reducible refine Kp.below ?_ (by assumption)) | (with_reducible refine Kp.grown ?_ (by assumption) ?_) | (with_reducible refine Kp.alloc ?_ _) | (with_reducible refine Kp.drew ?_) | (with_reducible refine Kp.drewN ?_ _) | (with_reducible refine Kp.setCell ?_ _ ?_))) <;> (first | omega | (simp; done) | (simp; omega))), ⟨(by (repeat (first | with_reducible exact Below.refl _ _ | (with_reducible refine bel_next ?_ ?_ (by assumption)) | (with_reducible refine Below.alloc ?_ ?_ _) | (with_reducible refine Below.drew ?_) | (with_reducible refine below_drewN ?_ _) | (with_reducible refine Below.setCell ?_ ?_ _))) <;> (first | omega | (simp; done) | (simp; omega))), fun q hq => kp_of_lt fun hql => (by (repeat (first | with_reducible exact Kp.refl _ _ | (with_reducible refine Kp.rng ?_ (by assumption) ?_) | (with_reducible refine Kp.below ?_ (by assumption)) | (with_reducible refine Kp.grown ?_ (by assumption) ?_) | (with_reducible refine Kp.alloc ?_ _) | (with_reducible refine Kp.drew ?_) | (with_reducible refine Kp.drewN ?_ _) | (with_reducible refine Kp.setCell ?_ _ ?_))) <;> (first | omega | (simp; done) | (simp; omega)))⟩⟩
    · go_wp2_with fail
      refine (below_dr g xs ad c 2 _ (hd1.keep fun q hq => (by (repeat (first | with_reducible exact Kp.refl _ _ | (with_reducible refine Kp.rng ?_ (by assumption) ?_) | (with_reducible refine Kp.below ?_ (by assumption)) | (with_reducible refine Kp.grown ?_ (by assumption) ?_) | (with_reducible refine Kp.alloc ?_ _) | (with_reducible refine Kp.drew ?_) | (with_reducible refine Kp.drewN ?_ _) | (with_reducible refine Kp.setCell ?_ _ ?_))) <;> (first | omega | (simp; done) | (simp; omega))))).mono ?_
      rintro e w2 ⟨a, rfl, a0, a1, _, hd2, ob2, or2⟩
      have a1 := a1 (by omega)
      have z2 := ob2.size
      (try simp at z2)
      have k2_0 : w2.cell? ⟨w.heap.size, 0, none⟩ = some (.int .i64 0) := or2.keeps (by omega) (by go_simp)
      have f2_0 : w2.frozen? ⟨w.heap.size, 0, none⟩ = false := or2.free (by omega) (by first | omega | (simp; done) | (simp; omega)) (by go_simp)
      have k2_1 : w2.cell? ⟨w.heap.size, 1, none⟩ = some (.int .i64 0) := or2.keeps (by omega) (by go_simp)
      have f2_1 : w2.frozen? ⟨w.heap.size, 1, none⟩ = false := or2.free (by omega) (by first | omega | (simp; done) | (simp; omega)) (by go_simp)
      have k2_2 : w2.cell? ⟨w.heap.size, 2, none⟩ = some (.int .i64 0) := or2.keeps (by omega) (by go_simp)
      have f2_2 : w2.frozen? ⟨w.heap.size, 2, none⟩ = false := or2.free (by omega) (by first | omega | (simp; done) | (simp; omega)) (by go_simp)
      clear k1_0 k1_1 k1_2 f1_0 f1_1 f1_2
      go_wp2_with fail
      refine bodyPost_ret (v := .agg #[.int .i64 2, .int .i64 a, .int .i64 0]) (by simp [results, Try.results94, go_sem, *]) rfl ⟨2, a, 0, rfl, gateOk_cn a0 a1, hd2.keep fun q hq => (by (repeat (first | with_reducible exact Kp.refl _ _ | (with_reducible refine Kp.rng ?_ (by assumption) ?_) | (with_reducible refine Kp.below ?_ (by assumption)) | (with_reducible refine Kp.grown ?_ (by assumption) ?_) | (with_reducible refine Kp.alloc ?_ _) | (with_reducible refine Kp.drew ?_) | (with_reducible refine Kp.drewN ?_ _) | (with_reducible refine Kp.setCell ?_ _ ?_))) <;> (first | omega | (simp; done) | (simp; omega))), ⟨(by (repeat (first | with_reducible exact Below.refl _ _ | (with_reducible refine bel_next ?_ ?_ (by assumption)) | (with_reducible refine Below.alloc ?_ ?_ _) | (with_reducible refine Below.drew ?_) | (with_reducible refine below_drewN ?_ _) | (with_reducible refine Below.setCell ?_ ?_ _))) <;> (first | omega | (simp; done) | (simp; omega))), fun q hq => kp_of_lt fun hql => (by (repeat (first | with_reducible exact Kp.refl _ _ | (with_reducible refine Kp.rng ?_ (by assumption) ?_) | (with_reducible refine Kp.below ?_ (by assumption)) | (with_reducible refine Kp.grown ?_ (by assumption) ?_) | (with_reducible refine Kp.alloc ?_ _) | (with_reducible refine Kp.drew ?_) | (with_reducible refine Kp.drewN ?_ _) | (with_reducible refine Kp.setCell ?_ _ ?_))) <;> (first | omega | (simp; done) | (simp; omega)))⟩⟩
    · go_wp2_with fail
      refine (below_dr g xs ad c 20 _ (hd1.keep fun q hq => (by (repeat (first | with_reducible exact Kp.refl _ _ | (with_reducible refine Kp.rng ?_ (by assumption) ?_) | (with_reducible refine Kp.below ?_ (by assumption)) | (with_reducible refine Kp.grown ?_ (by assumption) ?_) | (with_reducible refine Kp.alloc ?_ _) | (with_reducible refine Kp.drew ?_) | (with_reducible refine Kp.drewN ?_ _) | (with_reducible refine Kp.setCell ?_ _ ?_))) <;> (first | omega | (simp; done) | (simp; omega))))).mono ?_
      rintro e w2 ⟨a, rfl, a0, a1, _, hd2, ob2, or2⟩
      have a1 := a1 (by omega)
      have z2 := ob2.size
      (try simp at z2)
      have k2_0 : w2.cell? ⟨w.heap.size, 0, none⟩ = some (.int .i64 0) := or2.keeps (by omega) (by go_simp)
      have f2_0 : w2.frozen? ⟨w.heap.size, 0, none⟩ = false := or2.free (by omega) (by first | omega | (simp; done) | (simp; omega)) (by go_simp)
      have k2_1 : w2.cell? ⟨w.heap.size, 1, none⟩ = some (.int .i64 0) := or2.keeps (by omega) (by go_simp)
      have f2_1 : w2.frozen? ⟨w.heap.size, 1, none⟩ = false := or2.free (by omega) (by first | omega | (simp; done) | (simp; omega)) (by go_simp)
      have k2_2 : w2.cell? ⟨w.heap.size, 2, none⟩ = some (.int .i64 0) := or2.keeps (by omega) (by go_simp)
      have f2_2 : w2.frozen? ⟨w.heap.size, 2, none⟩ = false := or2.free (by omega) (by first | omega | (simp; done) | (simp; omega)) (by go_simp)
      clear k1_0 k1_1 k1_2 f1_0 f1_1 f1_2
      go_wp2_with fail
      refine bodyPost_ret (v := .agg #[.int .i64 1, .int .i64 a, .int .i64 0]) (by simp [results, Try.results94, go_sem, *]) rfl ⟨1, a, 0, rfl, gateOk_in a0 a1, hd2.keep fun q hq => (by (repeat (first | with_reducible exact Kp.refl _ _ | (with_reducible refine Kp.rng ?_ (by assumption) ?_) | (with_reducible refine Kp.below ?_ (by assumption)) | (with_reducible refine Kp.grown ?_ (by assumption) ?_) | (with_reducible refine Kp.alloc ?_ _) | (with_reducible refine Kp.drew ?_) | (with_reducible refine Kp.drewN ?_ _) | (with_reducible refine Kp.setCell ?_ _ ?_))) <;> (first | omega | (simp; done) | (simp; omega))), ⟨(by (repeat (first | with_reducible exact Below.refl _ _ | (with_reducible refine bel_next ?_ ?_ (by assumption)) | (with_reducible refine Below.alloc ?_ ?_ _) | (with_reducible refine Below.drew ?_) | (with_reducible refine below_drewN ?_ _) | (with_reducible refine Below.setCell ?_ ?_ _))) <;> (first | omega | (simp; done) | (simp; omega))), fun q hq => kp_of_lt fun hql => (by (repeat (first | with_reducible exact Kp.refl _ _ | (with_reducible refine Kp.rng ?_ (by assumption) ?_) | (with_reducible refine Kp.below ?_ (by assumption)) | (with_reducible refine Kp.grown ?_ (by assumption) ?_) | (with_reducible refine Kp.alloc ?_ _) | (with_reducible refine Kp.drew ?_) | (with_reducible refine Kp.drewN ?_ _) | (with_reducible refine Kp.setCell ?_ _ ?_))) <;> (first | omega | (simp; done) | (simp; omega)))⟩⟩
    · go_wp2_with fail
      refine (below_dr g xs ad c 20 _ (hd1.keep fun q hq => (by (repeat (first | with_reducible exact Kp.refl _ _ | (with_reducible refine Kp.rng ?_ (by assumption) ?_) | (with_reducible refine Kp.below ?_ (by assumption)) | (with_reducible refine Kp.grown ?_ (by assumption) ?_) | (with_reducible refine Kp.alloc ?_ _) | (with_reducible refine Kp.drew ?_) | (with_reducible refine Kp.drewN ?_ _) | (with_reducible refine Kp.setCell ?_ _ ?_))) <;> (first | omega | (simp; done) | (simp; omega))))).mono ?_
      rintro e w2 ⟨a, rfl, a0, a1, _, hd2, ob2, or2⟩
      have a1 := a1 (by omega)
      have z2 := ob2.size
      (try simp at z2)
      have k2_0 : w2.cell? ⟨w.heap.size, 0, none⟩ = some (.int .i64 0) := or2.keeps (by omega) (by go_simp)
      have f2_0 : w2.frozen? ⟨w.heap.size, 0, none⟩ = false := or2.free (by omega) (by first | omega | (simp; done) | (simp; omega)) (by go_simp)
      have k2_1 : w2.cell? ⟨w.heap.size, 1, none⟩ = some (.int .i64 0) := or2.keeps (by omega) (by go_simp)
      have f2_1 : w2.frozen? ⟨w.heap.size, 1, none⟩ = false := or2.free (by omega) (by first | omega | (simp; done) | (simp; omega)) (by go_simp)
      have k2_2 : w2.cell? ⟨w.heap.size, 2, none⟩ = some (.int .i64 0) := or2.keeps (by omega) (by go_simp)
      have f2_2 : w2.frozen? ⟨w.heap.size, 2, none⟩ = false := or2.free (by omega) (by first | omega | (simp; done) | (simp; omega)) (by go_simp)
      clear k1_0 k1_1 k1_2 f1_0 f1_1 f1_2
      go_wp2_with fail
      refine bodyPost_ret (v := .agg #[.int .i64 1, .int .i64 a, .int .i64 0]) (by simp [results, Try.results94, go_sem, *]) rfl ⟨1, a, 0, rfl, gateOk_in a0 a1, hd2.keep fun q hq => (by (repeat (first | with_reducible exact Kp.refl _ _ | (with_reducible refine Kp.rng ?_ (by assumption) ?_) | (with_reducible refine Kp.below ?_ (by assumption)) | (with_reducible refine Kp.grown ?_ (by assumption) ?_) | (with_reducible refine Kp.alloc ?_ _) | (with_reducible refine Kp.drew ?_) | (with_reducible refine Kp.drewN ?_ _) | (with_reducible refine Kp.setCell ?_ _ ?_))) <;> (first | omega | (simp; done) | (simp; omega))), ⟨(by (repeat (first | with_reducible exact Below.refl _ _ | (with_reducible refine bel_next ?_ ?_ (by assumption)) | (with_reducible refine Below.alloc ?_ ?_ _) | (with_reducible refine Below.drew ?_) | (with_reducible refine below_drewN ?_ _) | (with_reducible refine Below.setCell ?_ ?_ _))) <;> (first | omega | (simp; done) | (simp; omega))), fun q hq => kp_of_lt fun hql => (by (repeat (first | with_reducible exact Kp.refl _ _ | (with_reducible refine Kp.rng ?_ (by assumption) ?_) | (with_reducible refine Kp.below ?_ (by assumption)) | (with_reducible refine Kp.grown ?_ (by assumption) ?_) | (with_reducible refine Kp.alloc ?_ _) | (with_reducible refine Kp.drew ?_) | (with_reducible refine Kp.drewN ?_ _) | (with_reducible refine Kp.setCell ?_ _ ?_))) <;> (first | omega | (simp; done) | (simp; omega)))⟩⟩
    · go_wp2_with fail
      refine (below_dr g xs ad c 20 _ (hd1.keep fun q hq => (by (repeat (first | with_reducible exact Kp.refl _ _ | (with_reducible refine Kp.rng ?_ (by assumption) ?_) | (with_reducible refine Kp.below ?_ (by assumption)) | (with_reducible refine Kp.grown ?_ (by assumption) ?_) | (with_reducible refine Kp.alloc ?_ _) | (with_reducible refine Kp.drew ?_) | (with_reducible refine Kp.drewN ?_ _) | (with_reducible refine Kp.setCell ?_ _ ?_))) <;> (first | omega | (simp; done) | (simp; omega))))).mono ?_
      rintro e w2 ⟨a, rfl, a0, a1, _, hd2, ob2, or2⟩
      have a1 := a1 (by omega)
      have z2 := ob2.size
      (try simp at z2)
      have k2_0 : w2.cell? ⟨w.heap.size, 0, none⟩ = some (.int .i64 0) := or2.keeps (by omega) (by go_simp)
      have f2_0 : w2.frozen? ⟨w.heap.size, 0, none⟩ = false := or2.free (by omega) (by first | omega | (simp; done) | (simp; omega)) (by go_simp)
      have k2_1 : w2.cell? ⟨w.heap.size, 1, none⟩ = some (.int .i64 0) := or2.keeps (by omega) (by go_simp)
      have f2_1 : w2.frozen? ⟨w.heap.size, 1, none⟩ = false := or2.free (by omega) (by first | omega | (simp; done) | (simp; omega)) (by go_simp)
      have k2_2 : w2.cell? ⟨w.heap.size, 2, none⟩ = some (.int .i64 0) := or2.keeps (by omega) (by go_simp)
      have f2_2 : w2.frozen? ⟨w.heap.size, 2, none⟩ = false := or2.free (by omega) (by first | omega | (simp; done) | (simp; omega)) (by go_simp)
      clear k1_0 k1_1 k1_2 f1_0 f1_1 f1_2
      go_wp2_with fail
      refine bodyPost_ret (v := .agg #[.int .i64 1, .int .i64 a, .int .i64 0]) (by simp [results, Try.results94, go_sem, *]) rfl ⟨1, a, 0, rfl, gateOk_in a0 a1, hd2.keep fun q hq => (by (repeat (first | with_reducible exact Kp.refl _ _ | (with_reducible refine Kp.rng ?_ (by assumption) ?_) | (with_reducible refine Kp.below ?_ (by assumption)) | (with_reducible refine Kp.grown ?_ (by assumption) ?_) | (with_reducible refine Kp.alloc ?_ _) | (with_reducible refine Kp.drew ?_) | (with_reducible refine Kp.drewN ?_ _) | (with_reducible refine Kp.setCell ?_ _ ?_))) <;> (first | omega | (simp; done) | (simp; omega))), ⟨(by (repeat (first | with_reducible exact Below.refl _ _ | (with_reducible refine bel_next ?_ ?_ (by assumption)) | (with_reducible refine Below.alloc ?_ ?_ _) | (with_reducible refine Below.drew ?_) | (with_reducible refine below_drewN ?_ _) | (with_reducible refine Below.setCell ?_ ?_ _))) <;> (first | omega | (simp; done) | (simp; omega))), fun q hq => kp_of_lt fun hql => (by (repeat (first | with_reducible exact Kp.refl _ _ | (with_reducible refine Kp.rng ?_ (by assumption) ?_) | (with_reducible refine Kp.below ?_ (by assumption)) | (with_reducible refine Kp.grown ?_ (by assumption) ?_) | (with_reducible refine Kp.alloc ?_ _) | (with_reducible refine Kp.drew ?_) | (with_reducible refine Kp.drewN ?_ _) | (with_reducible refine Kp.setCell ?_ _ ?_))) <;> (first | omega | (simp; done) | (simp; omega)))⟩⟩
    · go_wp2_with fail
      refine (below_dr g xs ad c 20 _ (hd1.keep fun q hq => (by (repeat (first | with_reducible exact Kp.refl _ _ | (with_reducible refine Kp.rng ?_ (by assumption) ?_) | (with_reducible refine Kp.below ?_ (by assumption)) | (with_reducible refine Kp.grown ?_ (by assumption) ?_) | (with_reducible refine Kp.alloc ?_ _) | (with_reducible refine Kp.drew ?_) | (with_reducible refine Kp.drewN ?_ _) | (with_reducible refine Kp.setCell ?_ _ ?_))) <;> (first | omega | (simp; done) | (simp; omega))))).mono ?_
      rintro e w2 ⟨a, rfl, a0, a1, _, hd2, ob2, or2⟩
      have a1 := a1 (by omega)
      have z2 := ob2.size
      (try simp at z2)
      have k2_0 : w2.cell? ⟨w.heap.size, 0, none⟩ = some (.int .i64 0) := or2.keeps (by omega) (by go_simp)
      have f2_0 : w2.frozen? ⟨w.heap.size, 0, none⟩ = false := or2.free (by omega) (by first | omega | (simp; done) | (simp; omega)) (by go_simp)
      have k2_1 : w2.cell? ⟨w.heap.size, 1, none⟩ = some (.int .i64 0) := or2.keeps (by omega) (by go_simp)
      have f2_1 : w2.frozen? ⟨w.heap.size, 1, none⟩ = false := or2.free (by omega) (by first | omega | (simp; done) | (simp; omega)) (by go_simp)
      have k2_2 : w2.cell? ⟨w.heap.size, 2, none⟩ = some (.int .i64 0) := or2.keeps (by omega) (by go_simp)
      have f2_2 : w2.frozen? ⟨w.heap.size, 2, none⟩ = false := or2.free (by omega) (by first | omega | (simp; done) | (simp; omega)) (by go_simp)
      clear k1_0 k1_1 k1_2 f1_0 f1_1 f1_2
      go_wp2_with fail
      refine bodyPost_ret (v := .agg #[.int .i64 1, .int .i64 a, .int .i64 0]) (by simp [results, Try.results94, go_sem, *]) rfl ⟨1, a, 0, rfl, gateOk_in a0 a1, hd2.keep fun q hq => (by (repeat (first | with_reducible exact Kp.refl _ _ | (with_reducible refine Kp.rng ?_ (by assumption) ?_) | (with_reducible refine Kp.below ?_ (by assumption)) | (with_reducible refine Kp.grown ?_ (by assumption) ?_) | (with_reducible refine Kp.alloc ?_ _) | (with_reducible refine Kp.drew ?_) | (with_reducible refine Kp.drewN ?_ _) | (with_reducible refine Kp.setCell ?_ _ ?_))) <;> (first | omega | (simp; done) | (simp; omega))), ⟨(by (repeat (first | with_reducible exact Below.refl _ _ | (with_reducible refine bel_next ?_ ?_ (by assumption)) | (with_reducible refine Below.alloc ?_ ?_ _) | (with_reducible refine Below.drew ?_) | (with_reducible refine below_drewN ?_ _) | (with_reducible refine Below.setCell ?_ ?_ _))) <;> (first | omega | (simp; done) | (simp; omega))), fun q hq => kp_of_lt fun hql => (by (repeat (first | with_reducible exact Kp.refl _ _ | (with_reducible refine Kp.rng ?_ (by assumption) ?_) | (with_reducible refine Kp.below ?_ (by assumption)) | (with_reducible refine Kp.grown ?_ (by assumption) ?_) | (with_reducible refine Kp.alloc ?_ _) | (with_reducible refine Kp.drew ?_) | (with_reducible refine Kp.drewN ?_ _) | (with_reducible refine Kp.setCell ?_ _ ?_))) <;> (first | omega | (simp; done) | (simp; omega)))⟩⟩
    · go_wp2_with fail
      refine (below_dr g xs ad c 20 _ (hd1.keep fun q hq => (by (repeat (first | with_reducible exact Kp.refl _ _ | (with_reducible refine Kp.rng ?_ (by assumption) ?_) | (with_reducible refine Kp.below ?_ (by assumption)) | (with_reducible refine Kp.grown ?_ (by assumption) ?_) | (with_reducible refine Kp.alloc ?_ _) | (with_reducible refine Kp.drew ?_) | (with_reducible refine Kp.drewN ?_ _) | (with_reducible refine Kp.setCell ?_ _ ?_))) <;> (first | omega | (simp; done) | (simp; omega))))).mono ?_
      rintro e w2 ⟨a, rfl, a0, a1, _, hd2, ob2, or2⟩
      have a1 := a1 (by omega)
      have z2 := ob2.size
      (try simp at z2)
      have k2_0 : w2.cell? ⟨w.heap.size, 0, none⟩ = some (.int .i64 0) := or2.keeps (by omega) (by go_simp)
      have f2_0 : w2.frozen? ⟨w.heap.size, 0, none⟩ = false := or2.free (by omega) (by first | omega | (simp; done) | (simp; omega)) (by go_simp)
      have k2_1 : w2.cell? ⟨w.heap.size, 1, none⟩ = some (.int .i64 0) := or2.keeps (by omega) (by go_simp)
      have f2_1 : w2.frozen? ⟨w.heap.size, 1, none⟩ = false := or2.free (by omega) (by first | omega | (simp; done) | (simp; omega)) (by go_simp)
      have k2_2 : w2.cell? ⟨w.heap.size, 2, none⟩ = some (.int .i64 0) := or2.keeps (by omega) (by go_simp)
      have f2_2 : w2.frozen? ⟨w.heap.size, 2, none⟩ = false := or2.free (by omega) (by first | omega | (simp; done) | (simp; omega)) (by go_simp)
      clear k1_0 k1_1 k1_2 f1_0 f1_1 f1_2
      go_wp2_with fail
      refine bodyPost_ret (v := .agg #[.int .i64 1, .int .i64 a, .int .i64 0]) (by simp [results, Try.results94, go_sem, *]) rfl ⟨1, a, 0, rfl, gateOk_in a0 a1, hd2.keep fun q hq => (by (repeat (first | with_reducible exact Kp.refl _ _ | (with_reducible refine Kp.rng ?_ (by assumption) ?_) | (with_reducible refine Kp.below ?_ (by assumption)) | (with_reducible refine Kp.grown ?_ (by assumption) ?_) | (with_reducible refine Kp.alloc ?_ _) | (with_reducible refine Kp.drew ?_) | (with_reducible refine Kp.drewN ?_ _) | (with_reducible refine Kp.setCell ?_ _ ?_))) <;> (first | omega | (simp; done) | (simp; omega))), ⟨(by (repeat (first | with_reducible exact Below.refl _ _ | (with_reducible refine bel_next ?_ ?_ (by assumption)) | (with_reducible refine Below.alloc ?_ ?_ _) | (with_reducible refine Below.drew ?_) | (with_reducible refine below_drewN ?_ _) | (with_reducible refine Below.setCell ?_ ?_ _))) <;> (first | omega | (simp; done) | (simp; omega))), fun q hq => kp_of_lt fun hql => (by (repeat (first | with_reducible exact Kp.refl _ _ | (with_reducible refine Kp.rng ?_ (by assumption) ?_) | (with_reducible refine Kp.below ?_ (by assumption)) | (with_reducible refine Kp.grown ?_ (by assumption) ?_) | (with_reducible refine Kp.alloc ?_ _) | (with_reducible refine Kp.drew ?_) | (with_reducible refine Kp.drewN ?_ _) | (with_reducible refine Kp.setCell ?_ _ ?_))) <;> (first | omega | (simp; done) | (simp; omega)))⟩⟩
  case neg =>
    have hp0 : ((n : Int) == 0) = false := by simp; omega
    have hnp : (0 : Int) < n := by omega
    go_enter Try.func94, Try.ntmps94
    go_wp2_with fail
    refine (below_dr g xs ad c 7 _ (hd.keep fun q hq => (by (repeat (first | with_reducible exact Kp.refl _ _ | (with_reducible refine Kp.rng ?_ (by assumption) ?_) | (with_reducible refine Kp.below ?_ (by assumption)) | (with_reducible refine Kp.grown ?_ (by assumption) ?_) | (with_reducible refine Kp.alloc ?_ _) | (with_reducible refine Kp.drew ?_) | (with_reducible refine Kp.drewN ?_ _) | (with_reducible refine Kp.setCell ?_ _ ?_))) <;> (first | omega | (simp; done) | (simp; omega))))).mono ?_
    rintro e w1 ⟨v, rfl, v0, v1, _, hd1, ob1, or1⟩
    have v1 := v1 (by omega)
    have z1 := ob1.size
    (try simp at z1)
    have k1_0 : w1.cell? ⟨w.heap.size, 0, none⟩ = some (.int .i64 0) := or1.keeps (by omega) (by go_simp)
    have k1_1 : w1.cell? ⟨w.heap.size, 1, none⟩ = some (.int .i64 0) := or1.keeps (by omega) (by go_simp)
    have k1_2 : w1.cell? ⟨w.heap.size, 2, none⟩ = some (.int .i64 0) := or1.keeps (by omega) (by go_simp)
    have f1_0 : w1.frozen? ⟨w.heap.size, 0, none⟩ = false := or1.free (by omega) (by first | omega | (simp; done) | (simp; omega)) (by go_simp)
    have f1_1 : w1.frozen? ⟨w.heap.size, 1, none⟩ = false := or1.free (by omega) (by first | omega | (simp; done) | (simp; omega)) (by go_simp)
    have f1_2 : w1.frozen? ⟨w.heap.size, 2, none⟩ = false := or1.free (by omega) (by first | omega | (simp; done) | (simp; omega)) (by go_simp)
    have hv : v = 0 ∨ v = 1 ∨ v = 2 ∨ v = 3 ∨ v = 4 ∨ v = 5 ∨ v = 6 := by omega
    rcases hv with rfl | rfl | rfl | rfl | rfl | rfl | rfl
    · go_wp2_with fail
      refine (below_dr g xs ad c 20 _ (hd1.keep fun q hq => (by (repeat (first | with_reducible exact Kp.refl _ _ | (with_reducible refine Kp.rng ?_ (by assumption) ?_) | (with_reducible refine Kp.below ?_ (by assumption)) | (with_reducible refine Kp.grown ?_ (by assumption) ?_) | (with_reducible refine Kp.alloc ?_ _) | (with_reducible refine Kp.drew ?_) | (with_reducible refine Kp.drewN ?_ _) | (with_reducible refine Kp.setCell ?_ _ ?_))) <;> (first | omega | (simp; done) | (simp; omega))))).mono ?_
      rintro e w2 ⟨a, rfl, a0, a1, _, hd2, ob2, or2⟩
      have a1 := a1 (by omega)
      have z2 := ob2.size
      (try simp at z2)
      have k2_0 : w2.cell? ⟨w.heap.size, 0, none⟩ = some (.int .i64 0) := or2.keeps (by omega) (by go_simp)
      have f2_0 : w2.frozen? ⟨w.heap.size, 0, none⟩ = false := or2.free (by omega) (by first | omega | (simp; done) | (simp; omega)) (by go_simp)
      have k2_1 : w2.cell? ⟨w.heap.size, 1, none⟩ = some (.int .i64 0) := or2.keeps (by omega) (by go_simp)
      have f2_1 : w2.frozen? ⟨w.heap.size, 1, none⟩ = false := or2.free (by omega) (by first | omega | (simp; done) | (simp; omega)) (by go_simp)
      have k2_2 : w2.cell? ⟨w.heap.size, 2, none⟩ = some (.int .i64 0) := or2.keeps (by omega) (by go_simp)
      have f2_2 : w2.frozen? ⟨w.heap.size, 2, none⟩ = false := or2.free (by omega) (by first | omega | (simp; done) | (simp; omega)) (by go_simp)
      clear k1_0 k1_1 k1_2 f1_0 f1_1 f1_2
      go_wp2_with fail
      refine bodyPost_ret (v := .agg #[.int .i64 1, .int .i64 a, .int .i64 0]) (by simp [results, Try.results94, go_sem, *]) rfl ⟨1, a, 0, rfl, gateOk_in a0 a1, hd2.keep fun q hq => (by (repeat (first | with_reducible exact Kp.refl _ _ | (with_reducible refine Kp.rng ?_ (by assumption) ?_) | (with_reducible refine Kp.below ?_ (by assumption)) | (with_reducible refine Kp.grown ?_ (by assumption) ?_) | (with_reducible refine Kp.alloc ?_ _) | (with_reducible refine Kp.drew ?_) | (with_reducible refine Kp.drewN ?_ _) | (with_reducible refine Kp.setCell ?_ _ ?_))) <;> (first | omega | (simp; done) | (simp; omega))), ⟨(by (repeat (first | with_reducible exact Below.refl _ _ | (with_reducible refine bel_next ?_ ?_ (by assumption)) | (with_reducible refine Below.alloc ?_ ?_ _) | (with_reducible refine Below.drew ?_) | (with_reducible refine below_drewN ?_ _) | (with_reducible refine Below.setCell ?_ ?_ _))) <;> (first | omega | (simp; done) | (simp; omega))), fun q hq => kp_of_lt fun hql => (by (repeat (first | with_reducible exact Kp.refl _ _ | (with_reducible refine Kp.rng ?_ (by assumption) ?_) | (with_reducible refine Kp.below ?_ (by assumption)) | (with_reducible refine Kp.grown ?_ (by assumption) ?_) | (with_reducible refine Kp.alloc ?_ _) | (with_reducible refine Kp.drew ?_) | (with_reducible refine Kp.drewN ?_ _) | (with_reducible refine Kp.setCell ?_ _ ?_))) <;> (first | omega | (simp; done) | (simp; omega)))⟩⟩
    · go_wp2_with fail
      refine (below_dr g xs ad c 2 _ (hd1.keep fun q hq => (by (repeat (first | with_reducible exact Kp.refl _ _ | (with_reducible refine Kp.rng ?_ (by assumption) ?_) | (with_reducible refine Kp.below ?_ (by assumption)) | (with_reducible refine Kp.grown ?_ (by assumption) ?_) | (with_reducible refine Kp.alloc ?_ _) | (with_reducible refine Kp.drew ?_) | (with_reducible refine Kp.drewN ?_ _) | (with_reducible refine Kp.setCell ?_ _ ?_))) <;> (first | omega | (simp; done) | (simp; omega))))).mono ?_
      rintro e w2 ⟨a, rfl, a0, a1, _, hd2, ob2, or2⟩
      have a1 := a1 (by omega)
      have z2 := ob2.size
      (try simp at z2)
      have k2_0 : w2.cell? ⟨w.heap.size, 0, none⟩ = some (.int .i64 0) := or2.keeps (by omega) (by go_simp)
      have f2_0 : w2.frozen? ⟨w.heap.size, 0, none⟩ = false := or2.free (by omega) (by first | omega | (simp; done) | (simp; omega)) (by go_simp)
      have k2_1 : w2.cell? ⟨w.heap.size, 1, none⟩ = some (.int .i64 0) := or2.keeps (by omega) (by go_simp)
      have f2_1 : w2.frozen? ⟨w.heap.size, 1, none⟩ = false := or2.free (by omega) (by first | omega | (simp; done) | (simp; omega)) (by go_simp)
      have k2_2 : w2.cell? ⟨w.heap.size, 2, none⟩ = some (.int .i64 0) := or2.keeps (by omega) (by go_simp)
      have f2_2 : w2.frozen? ⟨w.heap.size, 2, none⟩ = false := or2.free (by omega) (by first | omega | (simp; done) | (simp; omega)) (by go_simp)
      clear k1_0 k1_1 k1_2 f1_0 f1_1 f1_2
      go_wp2_with fail
      refine bodyPost_ret (v := .agg #[.int .i64 2, .int .i64 a, .int .i64 0]) (by simp [results, Try.results94, go_sem, *]) rfl ⟨2, a, 0, rfl, gateOk_cn a0 a1, hd2.keep fun q hq => (by (repeat (first | with_reducible exact Kp.refl _ _ | (with_reducible refine Kp.rng ?_ (by assumption) ?_) | (with_reducible refine Kp.below ?_ (by assumption)) | (with_reducible refine Kp.grown ?_ (by assumption) ?_) | (with_reducible refine Kp.alloc ?_ _) | (with_reducible refine Kp.drew ?_) | (with_reducible refine Kp.drewN ?_ _) | (with_reducible refine Kp.setCell ?_ _ ?_))) <;> (first | omega | (simp; done) | (simp; omega))), ⟨(by (repeat (first | with_reducible exact Below.refl _ _ | (with_reducible refine bel_next ?_ ?_ (by assumption)) | (with_reducible refine Below.alloc ?_ ?_ _) | (with_reducible refine Below.drew ?_) | (with_reducible refine below_drewN ?_ _) | (with_reducible refine Below.setCell ?_ ?_ _))) <;> (first | omega | (simp; done) | (simp; omega))), fun q hq => kp_of_lt fun hql => (by (repeat (first | with_reducible exact Kp.refl _ _ | (with_reducible refine Kp.rng ?_ (by assumption) ?_) | (with_reducible refine Kp.below ?_ (by assumption)) | (with_reducible refine Kp.grown ?_ (by assumption) ?_) | (with_reducible refine Kp.alloc ?_ _) | (with_reducible refine Kp.drew ?_) | (with_reducible refine Kp.drewN ?_ _) | (with_reducible refine Kp.setCell ?_ _ ?_))) <;> (first | omega | (simp; done) | (simp; omega)))⟩⟩
    · go_wp2_with fail
      refine (below_dr g xs ad c n _ (hd1.keep fun q hq => (by (repeat (first | with_reducible exact Kp.refl _ _ | (with_reducible refine Kp.rng ?_ (by assumption) ?_) | (with_reducible refine Kp.below ?_ (by assumption)) | (with_reducible refine Kp.grown ?_ (by assumption) ?_) | (with_reducible refine Kp.alloc ?_ _) | (with_reducible refine Kp.drew ?_) | (with_reducible refine Kp.drewN ?_ _) | (with_reducible refine Kp.setCell ?_ _ ?_))) <;> (first | omega | (simp; done) | (simp; omega))))).mono ?_
      rintro e w2 ⟨a, rfl, a0, a1, _, hd2, ob2, or2⟩
      have a1 := a1 (by omega)
      have z2 := ob2.size
      (try simp at z2)
      have k2_0 : w2.cell? ⟨w.heap.size, 0, none⟩ = some (.int .i64 0) := or2.keeps (by omega) (by go_simp)
      have f2_0 : w2.frozen? ⟨w.heap.size, 0, none⟩ = false := or2.free (by omega) (by first | omega | (simp; done) | (simp; omega)) (by go_simp)
      have k2_1 : w2.cell? ⟨w.heap.size, 1, none⟩ = some (.int .i64 0) := or2.keeps (by omega) (by go_simp)
      have f2_1 : w2.frozen? ⟨w.heap.size, 1, none⟩ = false := or2.free (by omega) (by first | omega | (simp; done) | (simp; omega)) (by go_simp)
      have k2_2 : w2.cell? ⟨w.heap.size, 2, none⟩ = some (.int .i64 0) := or2.keeps (by omega) (by go_simp)
      have f2_2 : w2.frozen? ⟨w.heap.size, 2, none⟩ = false := or2.free (by omega) (by first | omega | (simp; done) | (simp; omega)) (by go_simp)
      clear k1_0 k1_1 k1_2 f1_0 f1_1 f1_2
      go_wp2_with fail
      refine (below_dr g xs ad c n _ (hd2.keep fun q hq => (by (repeat (first | with_reducible exact Kp.refl _ _ | (with_reducible refine Kp.rng ?_ (by assumption) ?_) | (with_reducible refine Kp.below ?_ (by assumption)) | (with_reducible refine Kp.grown ?_ (by assumption) ?_) | (with_reducible refine Kp.alloc ?_ _) | (with_reducible refine Kp.drew ?_) | (with_reducible refine Kp.drewN ?_ _) | (with_reducible refine Kp.setCell ?_ _ ?_))) <;> (first | omega | (simp; done) | (simp; omega))))).mono ?_
      rintro e w3 ⟨b, rfl, b0, b1, _, hd3, ob3, or3⟩
      have b1 := b1 (by omega)
      have z3 := ob3.size
      (try simp at z3)
      have k3_0 : w3.cell? ⟨w.heap.size, 0, none⟩ = some (.int .i64 0) := or3.keeps (by omega) (by go_simp)
      have f3_0 : w3.frozen? ⟨w.heap.size, 0, none⟩ = false := or3.free (by omega) (by first | omega | (simp; done) | (simp; omega)) (by go_simp)
      have k3_1 : w3.cell? ⟨w.heap.size, 1, none⟩ = some (.int .i64 0) := or3.keeps (by omega) (by go_simp)
      have f3_1 : w3.frozen? ⟨w.heap.size, 1, none⟩ = false := or3.free (by omega) (by first | omega | (simp; done) | (simp; omega)) (by go_simp)
      have k3_2 : w3.cell? ⟨w.heap.size, 2, none⟩ = some (.int .i64 0) := or3.keeps (by omega) (by go_simp)
      have f3_2 : w3.frozen? ⟨w.heap.size, 2, none⟩ = false := or3.free (by omega) (by first | omega | (simp; done) | (simp; omega)) (by go_simp)
      clear k2_0 k2_1 k2_2 f2_0 f2_1 f2_2
      go_wp2_with fail
      refine bodyPost_ret (v := .agg #[.int .i64 3, .int .i64 a, .int .i64 b]) (by simp [results, Try.results94, go_sem, *]) rfl ⟨3, a, b, rfl, gateOk_two (.inl rfl) a0 a1 b0 b1, hd3.keep fun q hq => (by (repeat (first | with_reducible exact Kp.refl _ _ | (with_reducible refine Kp.rng ?_ (by assumption) ?_) | (with_reducible refine Kp.below ?_ (by assumption)) | (with_reducible refine Kp.grown ?_ (by assumption) ?_) | (with_reducible refine Kp.alloc ?_ _) | (with_reducible refine Kp.drew ?_) | (with_reducible refine Kp.drewN ?_ _) | (with_reducible refine Kp.setCell ?_ _ ?_))) <;> (first | omega | (simp; done) | (simp; omega))), ⟨(by (repeat (first | with_reducible exact Below.refl _ _ | (with_reducible refine bel_next ?_ ?_ (by assumption)) | (with_reducible refine Below.alloc ?_ ?_ _) | (with_reducible refine Below.drew ?_) | (with_reducible refine below_drewN ?_ _) | (with_reducible refine Below.setCell ?_ ?_ _))) <;> (first | omega | (simp; done) | (simp; omega))), fun q hq => kp_of_lt fun hql => (by (repeat (first | with_reducible exact Kp.refl _ _ | (with_reducible refine Kp.rng ?_ (by assumption) ?_) | (with_reducible refine Kp.below ?_ (by assumption)) | (with_reducible refine Kp.grown ?_ (by assumption) ?_) | (with_reducible refine Kp.alloc ?_ _) | (with_reducible refine Kp.drew ?_) | (with_reducible refine Kp.drewN ?_ _) | (with_reducible refine Kp.setCell ?_ _ ?_))) <;> (first | omega | (simp; done) | (simp; omega)))⟩⟩
    · go_wp2_with fail
      refine (below_dr g xs ad c n _ (hd1.keep fun q hq => (by (repeat (first | with_reducible exact Kp.refl _ _ | (with_reducible refine Kp.rng ?_ (by assumption) ?_) | (with_reducible refine Kp.below ?_ (by assumption)) | (with_reducible refine Kp.grown ?_ (by assumption) ?_) | (with_reducible refine Kp.alloc ?_ _) | (with_reducible refine Kp.drew ?_) | (with_reducible refine Kp.drewN ?_ _) | (with_reducible refine Kp.setCell ?_ _ ?_))) <;> (first | omega | (simp; done) | (simp; omega))))).mono ?_
      rintro e w2 ⟨a, rfl, a0, a1, _, hd2, ob2, or2⟩
      have a1 := a1 (by omega)
      have z2 := ob2.size
      (try simp at z2)
      have k2_0 : w2.cell? ⟨w.heap.size, 0, none⟩ = some (.int .i64 0) := or2.keeps (by omega) (by go_simp)
      have f2_0 : w2.frozen? ⟨w.heap.size, 0, none⟩ = false := or2.free (by omega) (by first | omega | (simp; done) | (simp; omega)) (by go_simp)
      have k2_1 : w2.cell? ⟨w.heap.size, 1, none⟩ = some (.int .i64 0) := or2.keeps (by omega) (by go_simp)
      have f2_1 : w2.frozen? ⟨w.heap.size, 1, none⟩ = false := or2.free (by omega) (by first | omega | (simp; done) | (simp; omega)) (by go_simp)
      have k2_2 : w2.cell? ⟨w.heap.size, 2, none⟩ = some (.int .i64 0) := or2.keeps (by omega) (by go_simp)
      have f2_2 : w2.frozen? ⟨w.heap.size, 2, none⟩ = false := or2.free (by omega) (by first | omega | (simp; done) | (simp; omega)) (by go_simp)
      clear k1_0 k1_1 k1_2 f1_0 f1_1 f1_2
      go_wp2_with fail
      refine (below_dr g xs ad c n _ (hd2.keep fun q hq => (by (repeat (first | with_reducible exact Kp.refl _ _ | (with_reducible refine Kp.rng ?_ (by assumption) ?_) | (with_reducible refine Kp.below ?_ (by assumption)) | (with_reducible refine Kp.grown ?_ (by assumption) ?_) | (with_reducible refine Kp.alloc ?_ _) | (with_reducible refine Kp.drew ?_) | (with_reducible refine Kp.drewN ?_ _) | (with_reducible refine Kp.setCell ?_ _ ?_))) <;> (first | omega | (simp; done) | (simp; omega))))).mono ?_
      rintro e w3 ⟨b, rfl, b0, b1, _, hd3, ob3, or3⟩
      have b1 := b1 (by omega)
      have z3 := ob3.size
      (try simp at z3)
      have k3_0 : w3.cell? ⟨w.heap.size, 0, none⟩ = some (.int .i64 0) := or3.keeps (by omega) (by go_simp)
      have f3_0 : w3.frozen? ⟨w.heap.size, 0, none⟩ = false := or3.free (by omega) (by first | omega | (simp; done) | (simp; omega)) (by go_simp)
      have k3_1 : w3.cell? ⟨w.heap.size, 1, none⟩ = some (.int .i64 0) := or3.keeps (by omega) (by go_simp)
      have f3_1 : w3.frozen? ⟨w.heap.size, 1, none⟩ = false := or3.free (by omega) (by first | omega | (simp; done) | (simp; omega)) (by go_simp)
      have k3_2 : w3.cell? ⟨w.heap.size, 2, none⟩ = some (.int .i64 0) := or3.keeps (by omega) (by go_simp)
      have f3_2 : w3.frozen? ⟨w.heap.size, 2, none⟩ = false := or3.free (by omega) (by first | omega | (simp; done) | (simp; omega)) (by go_simp)
      clear k2_0 k2_1 k2_2 f2_0 f2_1 f2_2
      go_wp2_with fail
      refine bodyPost_ret (v := .agg #[.int .i64 4, .int .i64 a, .int .i64 b]) (by simp [results, Try.results94, go_sem, *]) rfl ⟨4, a, b, rfl, gateOk_two (.inr rfl) a0 a1 b0 b1, hd3.keep fun q hq => (by (repeat (first | with_reducible exact Kp.refl _ _ | (with_reducible refine Kp.rng ?_ (by assumption) ?_) | (with_reducible refine Kp.below ?_ (by assumption)) | (with_reducible refine Kp.grown ?_ (by assumption) ?_) | (with_reducible refine Kp.alloc ?_ _) | (with_reducible refine Kp.drew ?_) | (with_reducible refine Kp.drewN ?_ _) | (with_reducible refine Kp.setCell ?_ _ ?_))) <;> (first | omega | (simp; done) | (simp; omega))), ⟨(by (repeat (first | with_reducible exact Below.refl _ _ | (with_reducible refine bel_next ?_ ?_ (by assumption)) | (with_reducible refine Below.alloc ?_ ?_ _) | (with_reducible refine Below.drew ?_) | (with_reducible refine below_drewN ?_ _) | (with_reducible refine Below.setCell ?_ ?_ _))) <;> (first | omega | (simp; done) | (simp; omega))), fun q hq => kp_of_lt fun hql => (by (repeat (first | with_reducible exact Kp.refl _ _ | (with_reducible refine Kp.rng ?_ (by assumption) ?_) | (with_reducible refine Kp.below ?_ (by assumption)) | (with_reducible refine Kp.grown ?_ (by assumption) ?_) | (with_reducible refine Kp.alloc ?_ _) | (with_reducible refine Kp.drew ?_) | (with_reducible refine Kp.drewN ?_ _) | (with_reducible refine Kp.setCell ?_ _ ?_))) <;> (first | omega | (simp; done) | (simp; omega)))⟩⟩
    · go_wp2_with fail
      refine (below_dr g xs ad c n _ (hd1.keep fun q hq => (by (repeat (first | with_reducible exact Kp.refl _ _ | (with_reducible refine Kp.rng ?_ (by assumption) ?_) | (with_reducible refine Kp.below ?_ (by assumption)) | (with_reducible refine Kp.grown ?_ (by assumption) ?_) | (with_reducible refine Kp.alloc ?_ _) | (with_reducible refine Kp.drew ?_) | (with_reducible refine Kp.drewN ?_ _) | (with_reducible refine Kp.setCell ?_ _ ?_))) <;> (first | omega | (simp; done) | (simp; omega))))).mono ?_
      rintro e w2 ⟨a, rfl, a0, a1, _, hd2, ob2, or2⟩
      have a1 := a1 (by omega)
      have z2 := ob2.size
      (try simp at z2)
      have k2_0 : w2.cell? ⟨w.heap.size, 0, none⟩ = some (.int .i64 0) := or2.keeps (by omega) (by go_simp)
      have f2_0 : w2.frozen? ⟨w.heap.size, 0, none⟩ = false := or2.free (by omega) (by first | omega | (simp; done) | (simp; omega)) (by go_simp)
      have k2_1 : w2.cell? ⟨w.heap.size, 1, none⟩ = some (.int .i64 0) := or2.keeps (by omega) (by go_simp)
      have f2_1 : w2.frozen? ⟨w.heap.size, 1, none⟩ = false := or2.free (by omega) (by first | omega | (simp; done) | (simp; omega)) (by go_simp)
      have k2_2 : w2.cell? ⟨w.heap.size, 2, none⟩ = some (.int .i64 0) := or2.keeps (by omega) (by go_simp)
      have f2_2 : w2.frozen? ⟨w.heap.size, 2, none⟩ = false := or2.free (by omega) (by first | omega | (simp; done) | (simp; omega)) (by go_simp)
      clear k1_0 k1_1 k1_2 f1_0 f1_1 f1_2
      go_wp2_with fail
      refine bodyPost_ret (v := .agg #[.int .i64 5, .int .i64 a, .int .i64 0]) (by simp [results, Try.results94, go_sem, *]) rfl ⟨5, a, 0, rfl, gateOk_not a0 a1, hd2.keep fun q hq => (by (repeat (first | with_reducible exact Kp.refl _ _ | (with_reducible refine Kp.rng ?_ (by assumption) ?_) | (with_reducible refine Kp.below ?_ (by assumption)) | (with_reducible refine Kp.grown ?_ (by assumption) ?_) | (with_reducible refine Kp.alloc ?_ _) | (with_reducible refine Kp.drew ?_) | (with_reducible refine Kp.drewN ?_ _) | (with_reducible refine Kp.setCell ?_ _ ?_))) <;> (first | omega | (simp; done) | (simp; omega))), ⟨(by (repeat (first | with_reducible exact Below.refl _ _ | (with_reducible refine bel_next ?_ ?_ (by assumption)) | (with_reducible refine Below.alloc ?_ ?_ _) | (with_reducible refine Below.drew ?_) | (with_reducible refine below_drewN ?_ _) | (with_reducible refine Below.setCell ?_ ?_ _))) <;> (first | omega | (simp; done) | (simp; omega))), fun q hq => kp_of_lt fun hql => (by (repeat (first | with_reducible exact Kp.refl _ _ | (with_reducible refine Kp.rng ?_ (by assumption) ?_) | (with_reducible refine Kp.below ?_ (by assumption)) | (with_reducible refine Kp.grown ?_ (by assumption) ?_) | (with_reducible refine Kp.alloc ?_ _) | (with_reducible refine Kp.drew ?_) | (with_reducible refine Kp.drewN ?_ _) | (with_reducible refine Kp.setCell ?_ _ ?_))) <;> (first | omega | (simp; done) | (simp; omega)))⟩⟩
    · go_wp2_with fail
      refine (below_dr g xs ad c 20 _ (hd1.keep fun q hq => (by (repeat (first | with_reducible exact Kp.refl _ _ | (with_reducible refine Kp.rng ?_ (by assumption) ?_) | (with_reducible refine Kp.below ?_ (by assumption)) | (with_reducible refine Kp.grown ?_ (by assumption) ?_) | (with_reducible refine Kp.alloc ?_ _) | (with_reducible refine Kp.drew ?_) | (with_reducible refine Kp.drewN ?_ _) | (with_reducible refine Kp.setCell ?_ _ ?_))) <;> (first | omega | (simp; done) | (simp; omega))))).mono ?_
      rintro e w2 ⟨a, rfl, a0, a1, _, hd2, ob2, or2⟩
      have a1 := a1 (by omega)
      have z2 := ob2.size
      (try simp at z2)
      have k2_0 : w2.cell? ⟨w.heap.size, 0, none⟩ = some (.int .i64 0) := or2.keeps (by omega) (by go_simp)
      have f2_0 : w2.frozen? ⟨w.heap.size, 0, none⟩ = false := or2.free (by omega) (by first | omega | (simp; done) | (simp; omega)) (by go_simp)
      have k2_1 : w2.cell? ⟨w.heap.size, 1, none⟩ = some (.int .i64 0) := or2.keeps (by omega) (by go_simp)
      have f2_1 : w2.frozen? ⟨w.heap.size, 1, none⟩ = false := or2.free (by omega) (by first | omega | (simp; done) | (simp; omega)) (by go_simp)
      have k2_2 : w2.cell? ⟨w.heap.size, 2, none⟩ = some (.int .i64 0) := or2.keeps (by omega) (by go_simp)
      have f2_2 : w2.frozen? ⟨w.heap.size, 2, none⟩ = false := or2.free (by omega) (by first | omega | (simp; done) | (simp; omega)) (by go_simp)
      clear k1_0 k1_1 k1_2 f1_0 f1_1 f1_2
      go_wp2_with fail
      refine bodyPost_ret (v := .agg #[.int .i64 1, .int .i64 a, .int .i64 0]) (by simp [results, Try.results94, go_sem, *]) rfl ⟨1, a, 0, rfl, gateOk_in a0 a1, hd2.keep fun q hq => (by (repeat (first | with_reducible exact Kp.refl _ _ | (with_reducible refine Kp.rng ?_ (by assumption) ?_) | (with_reducible refine Kp.below ?_ (by assumption)) | (with_reducible refine Kp.grown ?_ (by assumption) ?_) | (with_reducible refine Kp.alloc ?_ _) | (with_reducible refine Kp.drew ?_) | (with_reducible refine Kp.drewN ?_ _) | (with_reducible refine Kp.setCell ?_ _ ?_))) <;> (first | omega | (simp; done) | (simp; omega))), ⟨(by (repeat (first | with_reducible exact Below.refl _ _ | (with_reducible refine bel_next ?_ ?_ (by assumption)) | (with_reducible refine Below.alloc ?_ ?_ _) | (with_reducible refine Below.drew ?_) | (with_reducible refine below_drewN ?_ _) | (with_reducible refine Below.setCell ?_ ?_ _))) <;> (first | omega | (simp; done) | (simp; omega))), fun q hq => kp_of_lt fun hql => (by (repeat (first | with_reducible exact Kp.refl _ _ | (with_reducible refine Kp.rng ?_ (by assumption) ?_) | (with_reducible refine Kp.below ?_ (by assumption)) | (with_reducible refine Kp.grown ?_ (by assumption) ?_) | (with_reducible refine Kp.alloc ?_ _) | (with_reducible refine Kp.drew ?_) | (with_reducible refine Kp.drewN ?_ _) | (with_reducible refine Kp.setCell ?_ _ ?_))) <;> (first | omega | (simp; done) | (simp; omega)))⟩⟩
    · go_wp2_with fail
      refine (below_dr g xs ad c n _ (hd1.keep fun q hq => (by (repeat (first | with_reducible exact Kp.refl _ _ | (with_reducible refine Kp.rng ?_ (by assumption) ?_) | (with_reducible refine Kp.below ?_ (by assumption)) | (with_reducible refine Kp.grown ?_ (by assumption) ?_) | (with_reducible refine Kp.alloc ?_ _) | (with_reducible refine Kp.drew ?_) | (with_reducible refine Kp.drewN ?_ _) | (with_reducible refine Kp.setCell ?_ _ ?_))) <;> (first | omega | (simp; done) | (simp; omega))))).mono ?_
      rintro e w2 ⟨a, rfl, a0, a1, _, hd2, ob2, or2⟩
      have a1 := a1 (by omega)
      have z2 := ob2.size
      (try simp at z2)
      have k2_0 : w2.cell? ⟨w.heap.size, 0, none⟩ = some (.int .i64 0) := or2.keeps (by omega) (by go_simp)
      have f2_0 : w2.frozen? ⟨w.heap.size, 0, none⟩ = false := or2.free (by omega) (by first | omega | (simp; done) | (simp; omega)) (by go_simp)
      have k2_1 : w2.cell? ⟨w.heap.size, 1, none⟩ = some (.int .i64 0) := or2.keeps (by omega) (by go_simp)
      have f2_1 : w2.frozen? ⟨w.heap.size, 1, none⟩ = false := or2.free (by omega) (by first | omega | (simp; done) | (simp; omega)) (by go_simp)
      have k2_2 : w2.cell? ⟨w.heap.size, 2, none⟩ = some (.int .i64 0) := or2.keeps (by omega) (by go_simp)
      have f2_2 : w2.frozen? ⟨w.heap.size, 2, none⟩ = false := or2.free (by omega) (by first | omega | (simp; done) | (simp; omega)) (by go_simp)
      clear k1_0 k1_1 k1_2 f1_0 f1_1 f1_2
      go_wp2_with fail
      refine (below_dr g xs ad c n _ (hd2.keep fun q hq => (by (repeat (first | with_reducible exact Kp.refl _ _ | (with_reducible refine Kp.rng ?_ (by assumption) ?_) | (with_reducible refine Kp.below ?_ (by assumption)) | (with_reducible refine Kp.grown ?_ (by assumption) ?_) | (with_reducible refine Kp.alloc ?_ _) | (with_reducible refine Kp.drew ?_) | (with_reducible refine Kp.drewN ?_ _) | (with_reducible refine Kp.setCell ?_ _ ?_))) <;> (first | omega | (simp; done) | (simp; omega))))).mono ?_
      rintro e w3 ⟨b, rfl, b0, b1, _, hd3, ob3, or3⟩
      have b1 := b1 (by omega)
      have z3 := ob3.size
      (try simp at z3)
      have k3_0 : w3.cell? ⟨w.heap.size, 0, none⟩ = some (.int .i64 0) := or3.keeps (by omega) (by go_simp)
      have f3_0 : w3.frozen? ⟨w.heap.size, 0, none⟩ = false := or3.free (by omega) (by first | omega | (simp; done) | (simp; omega)) (by go_simp)
      have k3_1 : w3.cell? ⟨w.heap.size, 1, none⟩ = some (.int .i64 0) := or3.keeps (by omega) (by go_simp)
      have f3_1 : w3.frozen? ⟨w.heap.size, 1, none⟩ = false := or3.free (by omega) (by first | omega | (simp; done) | (simp; omega)) (by go_simp)
      have k3_2 : w3.cell? ⟨w.heap.size, 2, none⟩ = some (.int .i64 0) := or3.keeps (by omega) (by go_simp)
      have f3_2 : w3.frozen? ⟨w.heap.size, 2, none⟩ = false := or3.free (by omega) (by first | omega | (simp; done) | (simp; omega)) (by go_simp)
      clear k2_0 k2_1 k2_2 f2_0 f2_1 f2_2
      go_wp2_with fail
      refine bodyPost_ret (v := .agg #[.int .i64 4, .int .i64 a, .int .i64 b]) (by simp [results, Try.results94, go_sem, *]) rfl ⟨4, a, b, rfl, gateOk_two (.inr rfl) a0 a1 b0 b1, hd3.keep fun q hq => (by (repeat (first | with_reducible exact Kp.refl _ _ | (with_reducible refine Kp.rng ?_ (by assumption) ?_) | (with_reducible refine Kp.below ?_ (by assumption)) | (with_reducible refine Kp.grown ?_ (by assumption) ?_) | (with_reducible refine Kp.alloc ?_ _) | (with_reducible refine Kp.drew ?_) | (with_reducible refine Kp.drewN ?_ _) | (with_reducible refine Kp.setCell ?_ _ ?_))) <;> (first | omega | (simp; done) | (simp; omega))), ⟨(by (repeat (first | with_reducible exact Below.refl _ _ | (with_reducible refine bel_next ?_ ?_ (by assumption)) | (with_reducible refine Below.alloc ?_ ?_ _) | (with_reducible refine Below.drew ?_) | (with_reducible refine below_drewN ?_ _) | (with_reducible refine Below.setCell ?_ ?_ _))) <;> (first | omega | (simp; done) | (simp; omega))), fun q hq => kp_of_lt fun hql => (by (repeat (first | with_reducible exact Kp.refl _ _ | (with_reducible refine Kp.rng ?_ (by assumption) ?_) | (with_reducible refine Kp.below ?_ (by assumption)) | (with_reducible refine Kp.grown ?_ (by assumption) ?_) | (with_reducible refine Kp.alloc ?_ _) | (with_reducible refine Kp.drew ?_) | (with_reducible refine Kp.drewN ?_ _) | (with_reducible refine Kp.setCell ?_ _ ?_))) <;> (first | omega | (simp; done) | (simp; omega)))⟩⟩
/-- What a drawn circuit is. -/
structure DCirc (gs : List Gt) (os : List Int) : Prop where
  ok : circOk gs os = true
  g1 : 1 ≤ gs.length
  g2 : gs.length ≤ 24
  o1 : 1 ≤ os.length
  o2 : os.length ≤ 4
theorem gtsOk_push {gs : List Gt} {k : Nat} {kd ga gb : Int} (h : gtsOk 0 gs = true) (hl : gs.length = k) (hg : gateOk kd ga gb k = true) : gtsOk 0 (gs ++ [⟨kd, ga, gb⟩]) = true := by
  rw [gtsOk_append, h]; subst hl; simp [gtsOk, hg]
set_option maxRecDepth 20000 in
set_option maxHeartbeats 8000000 in
theorem l13Case_dr (g : Nat) (xs : List Int) (ad : Option Addr) (c : Nat) (w : World) (hd : Dr w g xs ad c) :
    Calls Try.prog 78 #[.pointer (some ⟨g, 0, none⟩)] w fun e w' => ∃ (g1 c1 g2 c2 : Nat) (gs : List Gt) (os : List Int), e = .returned (.agg #[.slice (some ⟨g1, 0, none⟩) gs.length c1, .slice (some ⟨g2, 0, none⟩) os.length c2]) ∧ DCirc gs os ∧
      Own w' w.heap.size 50 3 (some ⟨g1, 0, none⟩) gs.length c1 (gtCells gs) ∧ Own w' w.heap.size 3 1 (some ⟨g2, 0, none⟩) os.length c2 (I64 os) ∧ g1 ≠ g2 ∧ Dr w' g xs ad c ∧ Only g w w' := by
  have hgt := hd.gt
  go_enter Try.func78, Try.ntmps78
  go_wp2_with fail
  refine (below_dr g xs ad c 24 _ (hd.keep fun q hq => (by (repeat (first | with_reducible exact Kp.refl _ _ | (with_reducible refine Kp.rng ?_ (by assumption) ?_) | (with_reducible refine Kp.below ?_ (by assumption)) | (with_reducible refine Kp.grown ?_ (by assumption) ?_) | (with_reducible refine Kp.alloc ?_ _) | (with_reducible refine Kp.drew ?_) | (with_reducible refine Kp.drewN ?_ _) | (with_reducible refine Kp.setCell ?_ _ ?_))) <;> (first | omega | (simp; done) | (simp; omega))))).mono ?_
  rintro e w0 ⟨n0, rfl, n00, n01, _, hd0, ob0, or0⟩
  have n01 := n01 (by omega)
  obtain ⟨n, rfl⟩ := Int.eq_ofNat_of_zero_le n00
  have z0 := ob0.size
  (try simp at z0)
  have iy0 : (w.heap.size + 1) < w0.heap.size := (by omega); have in0 : (w.heap.size + 1) ≠ w0.heap.size := (by omega); have im0 : w0.heap.size ≠ (w.heap.size + 1) := (by omega); have iy1 : w.heap.size < w0.heap.size := (by omega); have in1 : w.heap.size ≠ w0.heap.size := (by omega); have im1 : w0.heap.size ≠ w.heap.size := (by omega); have ik0 : w0.cell? ⟨(w.heap.size + 1), 0, none⟩ = some (.slice none 0 0) := or0.keeps (by omega) (by first | (go_simp; done) | assumption); have ik1 : w0.cell? ⟨(w.heap.size + 1), 1, none⟩ = some (.slice none 0 0) := or0.keeps (by omega) (by first | (go_simp; done) | assumption); have ik2 : w0.cell? ⟨w.heap.size, 0, none⟩ = some (.slice none 0 0) := or0.keeps (by omega) (by first | (go_simp; done) | assumption); have ik3 : w0.cell? ⟨w.heap.size, 1, none⟩ = some (.slice none 0 0) := or0.keeps (by omega) (by first | (go_simp; done) | assumption); have if0 : w0.frozen? ⟨(w.heap.size + 1), 0, none⟩ = false := or0.free (by omega) (by first | omega | (simp; done) | (simp; omega)) (by first | (go_simp; done) | assumption); have if1 : w0.frozen? ⟨(w.heap.size + 1), 1, none⟩ = false := or0.free (by omega) (by first | omega | (simp; done) | (simp; omega)) (by first | (go_simp; done) | assumption); have if2 : w0.frozen? ⟨w.heap.size, 0, none⟩ = false := or0.free (by omega) (by first | omega | (simp; done) | (simp; omega)) (by first | (go_simp; done) | assumption); have if3 : w0.frozen? ⟨w.heap.size, 1, none⟩ = false := or0.free (by omega) (by first | omega | (simp; done) | (simp; omega)) (by first | (go_simp; done) | assumption)
  go_wp2_with fail
  go_loopw [5] (fun i wr => ∃ (k : Nat) (a1 : Option Addr) (c1 : Nat) (gs : List Gt), k ≤ 1 + n ∧ i = .int .i64 k ∧ gs.length = k ∧ gtsOk 0 gs = true ∧ wr.cell? ⟨(w.heap.size + 1), 0, none⟩ = some (.slice a1 k c1) ∧ wr.cell? ⟨(w.heap.size + 1), 1, none⟩ = some (.slice none 0 0) ∧ wr.cell? ⟨w.heap.size, 0, none⟩ = some (.slice none 0 0) ∧ wr.cell? ⟨w.heap.size, 1, none⟩ = some (.slice none 0 0) ∧ wr.frozen? ⟨(w.heap.size + 1), 0, none⟩ = false ∧ wr.frozen? ⟨(w.heap.size + 1), 1, none⟩ = false ∧ wr.frozen? ⟨w.heap.size, 0, none⟩ = false ∧ wr.frozen? ⟨w.heap.size, 1, none⟩ = false ∧
      Own wr (w.heap.size + 2) 50 3 a1 k c1 (gtCells gs) ∧ Dr wr g xs ad c ∧ Only g w wr ∧ w0.heap.size ≤ wr.heap.size) (fun i _ => 1 + n - (intOf i).toNat)
  case atStart => exact ⟨0, none, 0, [], by omega, rfl, rfl, rfl, ik0, ik1, ik2, ik3, if0, if1, if2, if3, Own.nil _ _ _ _, hd0, ⟨(by (repeat (first | with_reducible exact Below.refl _ _ | (with_reducible refine bel_next ?_ ?_ (by assumption)) | (with_reducible refine Below.alloc ?_ ?_ _) | (with_reducible refine Below.drew ?_) | (with_reducible refine below_drewN ?_ _) | (with_reducible refine Below.setCell ?_ ?_ _))) <;> (first | omega | (simp; done) | (simp; omega))), fun q hq => kp_of_lt fun hql => (by (repeat (first | with_reducible exact Kp.refl _ _ | (with_reducible refine Kp.rng ?_ (by assumption) ?_) | (with_reducible refine Kp.below ?_ (by assumption)) | (with_reducible refine Kp.grown ?_ (by assumption) ?_) | (with_reducible refine Kp.alloc ?_ _) | (with_reducible refine Kp.drew ?_) | (with_reducible refine Kp.drewN ?_ _) | (with_reducible refine Kp.setCell ?_ _ ?_))) <;> (first | omega | (simp; done) | (simp; omega)))⟩, Nat.le_refl _⟩
  case round =>
    obtain ⟨k, a1, c1, gs, hk, rfl, hlen, hok, q0, q1, q2, q3, f0, f1, f2, f3, hown, hdr, ⟨obr, orr⟩, hsz⟩ := hrel
    have HO := Lib.hid hown
    have HOK := Lib.hid hok
    have HLEN := Lib.hid hlen
    have zr := obr.size
    clear hown hok ik0 ik1 ik2 ik3 if0 if1 if2 if3 hlen
    by_cases hlt : k < 1 + n
    · have hlt' : (k : Int) < 1 + (n : Int) := by omega
      go_wp2_with fail
      go_region_law (first | (go_simp; go_at_call 94; refine (l13Gate_dr g xs ad c k _ (by omega) (hdr.keep fun q hq => (by (repeat (first | with_reducible exact Kp.refl _ _ | (with_reducible refine Kp.rng ?_ (by assumption) ?_) | (with_reducible refine Kp.below ?_ (by assumption)) | (with_reducible refine Kp.grown ?_ (by assumption) ?_) | (with_reducible refine Kp.alloc ?_ _) | (with_reducible refine Kp.drew ?_) | (with_reducible refine Kp.drewN ?_ _) | (with_reducible refine Kp.setCell ?_ _ ?_))) <;> (first | omega | (simp; done) | (simp; omega))))).mono ?_; rintro e v1 ⟨kd, ga, gb, rfl, hgk, hd1, ob1, or1⟩; have HGK := Lib.hid hgk; clear hgk; have zv1 := ob1.size; (try simp at zv1); have vy0 : (w.heap.size + 1) < v1.heap.size := (by omega); have vn0 : (w.heap.size + 1) ≠ v1.heap.size := (by omega); have vm0 : v1.heap.size ≠ (w.heap.size + 1) := (by omega); have vy1 : w.heap.size < v1.heap.size := (by omega); have vn1 : w.heap.size ≠ v1.heap.size := (by omega); have vm1 : v1.heap.size ≠ w.heap.size := (by omega); have vk0 : v1.cell? ⟨(w.heap.size + 1), 0, none⟩ = some (.slice a1 k c1) := or1.keeps (by omega) (by first | (go_simp; done) | assumption); have vk1 : v1.cell? ⟨(w.heap.size + 1), 1, none⟩ = some (.slice none 0 0) := or1.keeps (by omega) (by first | (go_simp; done) | assumption); have vk2 : v1.cell? ⟨w.heap.size, 0, none⟩ = some (.slice none 0 0) := or1.keeps (by omega) (by first | (go_simp; done) | assumption); have vk3 : v1.cell? ⟨w.heap.size, 1, none⟩ = some (.slice none 0 0) := or1.keeps (by omega) (by first | (go_simp; done) | assumption); have vf0 : v1.frozen? ⟨(w.heap.size + 1), 0, none⟩ = false := or1.free (by omega) (by first | omega | (simp; done) | (simp; omega)) (by first | (go_simp; done) | assumption); have vf1 : v1.frozen? ⟨(w.heap.size + 1), 1, none⟩ = false := or1.free (by omega) (by first | omega | (simp; done) | (simp; omega)) (by first | (go_simp; done) | assumption); have vf2 : v1.frozen? ⟨w.heap.size, 0, none⟩ = false := or1.free (by omega) (by first | omega | (simp; done) | (simp; omega)) (by first | (go_simp; done) | assumption); have vf3 : v1.frozen? ⟨w.heap.size, 1, none⟩ = false := or1.free (by omega) (by first | omega | (simp; done) | (simp; omega)) (by first | (go_simp; done) | assumption)) | (refine step_pushG _ rfl _ _ rfl (w.heap.size + 2) k c1 a1 gs ⟨kd, ga, gb⟩ v1.heap.size 1 (by rfl) (by rfl) (HO.out.keep fun b hb => (by have hh := HO.out.blk b hb; exact (by (repeat (first | with_reducible exact Kp.refl _ _ | (with_reducible refine Kp.rng ?_ (by assumption) ?_) | (with_reducible refine Kp.below ?_ (by assumption)) | (with_reducible refine Kp.grown ?_ (by assumption) ?_) | (with_reducible refine Kp.alloc ?_ _) | (with_reducible refine Kp.drew ?_) | (with_reducible refine Kp.drewN ?_ _) | (with_reducible refine Kp.setCell ?_ _ ?_))) <;> (first | omega | (simp; done) | (simp; omega))))) (by go_simp) (by go_simp) (by go_simp) (by omega) (by first | omega | (simp; done) | (simp; omega)) ?_; intro g4 d4 w4 ho4 hb4 hg4 hat4; have z4 := hb4.size; (try simp at z4); have y4 := hg4.size; (try simp at y4); have l4 := ho4.ge; have wk0 := grown_cellA hg4 (b := (w.heap.size + 1)) (o := 0) (x := .slice a1 k c1) (HO.out.map_ne (by omega)) (by first | (go_simp; done) | assumption); have wk1 := grown_cellA hg4 (b := (w.heap.size + 1)) (o := 1) (x := .slice none 0 0) (HO.out.map_ne (by omega)) (by first | (go_simp; done) | assumption); have wk2 := grown_cellA hg4 (b := w.heap.size) (o := 0) (x := .slice none 0 0) (HO.out.map_ne (by omega)) (by first | (go_simp; done) | assumption); have wk3 := grown_cellA hg4 (b := w.heap.size) (o := 1) (x := .slice none 0 0) (HO.out.map_ne (by omega)) (by first | (go_simp; done) | assumption); have wf0 := grown_freeA hg4 (b := (w.heap.size + 1)) (o := 0) (HO.out.map_ne (by omega)) (by first | omega | (simp; done) | (simp; omega)) (by first | (go_simp; done) | assumption); have wf1 := grown_freeA hg4 (b := (w.heap.size + 1)) (o := 1) (HO.out.map_ne (by omega)) (by first | omega | (simp; done) | (simp; omega)) (by first | (go_simp; done) | assumption); have wf2 := grown_freeA hg4 (b := w.heap.size) (o := 0) (HO.out.map_ne (by omega)) (by first | omega | (simp; done) | (simp; omega)) (by first | (go_simp; done) | assumption); have wf3 := grown_freeA hg4 (b := w.heap.size) (o := 1) (HO.out.map_ne (by omega)) (by first | omega | (simp; done) | (simp; omega)) (by first | (go_simp; done) | assumption)))
      all_goals go_wp2_with fail
      all_goals go_roundw
      all_goals first
        | (show _ < _; simp [intOf]; omega)
        | exact ⟨k + 1, some ⟨g4, 0, none⟩, d4, gs ++ [⟨kd, ga, gb⟩], by omega, by go_num, by rw [List.length_append, HLEN.out]; rfl, gtsOk_push HOK.out HLEN.out HGK.out, (by first | (go_simp; done) | assumption), (by first | (go_simp; done) | assumption), (by first | (go_simp; done) | assumption), (by first | (go_simp; done) | assumption), (by first | (go_simp; done) | assumption), (by first | (go_simp; done) | assumption), (by first | (go_simp; done) | assumption), (by first | (go_simp; done) | assumption), ho4.later (by (repeat (first | with_reducible exact Kp.refl _ _ | (with_reducible refine Kp.rng ?_ (by assumption) ?_) | (with_reducible refine Kp.below ?_ (by assumption)) | (with_reducible refine Kp.grown ?_ (by assumption) ?_) | (with_reducible refine Kp.alloc ?_ _) | (with_reducible refine Kp.drew ?_) | (with_reducible refine Kp.drewN ?_ _) | (with_reducible refine Kp.setCell ?_ _ ?_))) <;> (first | omega | (simp; done) | (simp; omega))), hd1.keep fun q hq => (by (repeat (first | with_reducible exact Kp.refl _ _ | (with_reducible refine Kp.rng ?_ (by assumption) ?_) | (with_reducible refine Kp.below ?_ (by assumption)) | (with_reducible refine Kp.grown ?_ (by assumption) ?_) | (with_reducible refine Kp.alloc ?_ _) | (with_reducible refine Kp.drew ?_) | (with_reducible refine Kp.drewN ?_ _) | (with_reducible refine Kp.setCell ?_ _ ?_))) <;> (first | omega | (simp; done) | (simp; omega) | (refine HO.out.map_ne ?_; first | omega | (simp; omega)))), ⟨(by (repeat (first | with_reducible exact Below.refl _ _ | (with_reducible refine bel_next ?_ ?_ (by assumption)) | (with_reducible refine Below.alloc ?_ ?_ _) | (with_reducible refine Below.drew ?_) | (with_reducible refine below_drewN ?_ _) | (with_reducible refine Below.setCell ?_ ?_ _))) <;> (first | omega | (simp; done) | (simp; omega))), fun q hq => kp_of_lt fun hql => (by (repeat (first | with_reducible exact Kp.refl _ _ | (with_reducible refine Kp.rng ?_ (by assumption) ?_) | (with_reducible refine Kp.below ?_ (by assumption)) | (with_reducible refine Kp.grown ?_ (by assumption) ?_) | (with_reducible refine Kp.alloc ?_ _) | (with_reducible refine Kp.drew ?_) | (with_reducible refine Kp.drewN ?_ _) | (with_reducible refine Kp.setCell ?_ _ ?_))) <;> (first | omega | (simp; done) | (simp; omega) | (refine HO.out.map_ne ?_; first | omega | (simp; omega))))⟩, by simp [World.setCell]; omega⟩
    · have HKN : Hid (k = 1 + n) := by show _ = _; omega
      obtain ⟨gg, rfl, gg1, gg2⟩ := HO.out.addr (by omega)
      have HGL : Hid (gs.length = k) := HLEN.out
      go_wp2_with fail
      go_loopw [6] (fun i w2 => ∃ (k2 : Nat) (a2 : Option Addr) (c2 : Nat) (os : List Int), k2 ≤ 4 ∧ i = .int .i64 k2 ∧ os.length = k2 ∧ allB os 0 n = true ∧ w2.cell? ⟨(w.heap.size + 1), 0, none⟩ = some (.slice (some ⟨gg, 0, none⟩) k c1) ∧ w2.cell? ⟨(w.heap.size + 1), 1, none⟩ = some (.slice a2 k2 c2) ∧ w2.cell? ⟨w.heap.size, 0, none⟩ = some (.slice none 0 0) ∧ w2.cell? ⟨w.heap.size, 1, none⟩ = some (.slice none 0 0) ∧ w2.frozen? ⟨(w.heap.size + 1), 0, none⟩ = false ∧ w2.frozen? ⟨(w.heap.size + 1), 1, none⟩ = false ∧ w2.frozen? ⟨w.heap.size, 0, none⟩ = false ∧ w2.frozen? ⟨w.heap.size, 1, none⟩ = false ∧
          Own w2 (w.heap.size + 2) 50 3 (some ⟨gg, 0, none⟩) k c1 (gtCells gs) ∧ Own w2 (w.heap.size + 2) 3 1 a2 k2 c2 (I64 os) ∧ (∀ a, a2 = some a → a.block ≠ gg) ∧ Dr w2 g xs ad c ∧ Only g w w2 ∧ wr.heap.size ≤ w2.heap.size) (fun i _ => 4 - (intOf i).toNat)
      case atStart => exact ⟨0, none, 0, [], by omega, rfl, rfl, rfl, q0, q1, q2, q3, f0, f1, f2, f3, HO.out, Own.nil _ _ _ _, (fun a h => by cases h), hdr, ⟨obr, orr⟩, Nat.le_refl _⟩
      case round =>
        clear q0 f0 q1 f1 q2 f2 q3 f3
        rename_i w2
        obtain ⟨k2, a2, c2, os, hk4, rfl, holn, hall, q0, q1, q2, q3, f0, f1, f2, f3, howg, howo, hne, hdr2, ⟨ob2, or2⟩, hsz2⟩ := hrel
        have HO1 := Lib.hid howg
        have HO2 := Lib.hid howo
        have HNE := Lib.hid hne
        have HALL := Lib.hid hall
        have HOL := Lib.hid holn
        have z2 := ob2.size
        clear howg howo hne hall holn hdr obr orr HO HLEN
        go_wp2_with fail
        refine (below_dr g xs ad c 4 _ hdr2).mono ?_
        rintro e w3 ⟨v, rfl, v0, v1, _, hd3, ob3, or3⟩
        have v1 := v1 (by omega)
        have z3 := ob3.size
        have ry0 : (w.heap.size + 1) < w3.heap.size := (by omega); have rn0 : (w.heap.size + 1) ≠ w3.heap.size := (by omega); have rm0 : w3.heap.size ≠ (w.heap.size + 1) := (by omega); have ry1 : w.heap.size < w3.heap.size := (by omega); have rn1 : w.heap.size ≠ w3.heap.size := (by omega); have rm1 : w3.heap.size ≠ w.heap.size := (by omega); have rk0 : w3.cell? ⟨(w.heap.size + 1), 0, none⟩ = some (.slice (some ⟨gg, 0, none⟩) k c1) := or3.keeps (by omega) (by first | (go_simp; done) | assumption); have rk1 : w3.cell? ⟨(w.heap.size + 1), 1, none⟩ = some (.slice a2 k2 c2) := or3.keeps (by omega) (by first | (go_simp; done) | assumption); have rk2 : w3.cell? ⟨w.heap.size, 0, none⟩ = some (.slice none 0 0) := or3.keeps (by omega) (by first | (go_simp; done) | assumption); have rk3 : w3.cell? ⟨w.heap.size, 1, none⟩ = some (.slice none 0 0) := or3.keeps (by omega) (by first | (go_simp; done) | assumption); have rf0 : w3.frozen? ⟨(w.heap.size + 1), 0, none⟩ = false := or3.free (by omega) (by first | omega | (simp; done) | (simp; omega)) (by first | (go_simp; done) | assumption); have rf1 : w3.frozen? ⟨(w.heap.size + 1), 1, none⟩ = false := or3.free (by omega) (by first | omega | (simp; done) | (simp; omega)) (by first | (go_simp; done) | assumption); have rf2 : w3.frozen? ⟨w.heap.size, 0, none⟩ = false := or3.free (by omega) (by first | omega | (simp; done) | (simp; omega)) (by first | (go_simp; done) | assumption); have rf3 : w3.frozen? ⟨w.heap.size, 1, none⟩ = false := or3.free (by omega) (by first | omega | (simp; done) | (simp; omega)) (by first | (go_simp; done) | assumption)
        clear q0 f0 q1 f1 q2 f2 q3 f3
        by_cases hlt : (k2 : Int) < 1 + v
        · go_wp2_with fail
          go_region_law (first | (go_simp; go_at_call 93; refine (below_dr g xs ad c (1 + n) _ (hd3.keep fun q hq => (by (repeat (first | with_reducible exact Kp.refl _ _ | (with_reducible refine Kp.rng ?_ (by assumption) ?_) | (with_reducible refine Kp.below ?_ (by assumption)) | (with_reducible refine Kp.grown ?_ (by assumption) ?_) | (with_reducible refine Kp.alloc ?_ _) | (with_reducible refine Kp.drew ?_) | (with_reducible refine Kp.drewN ?_ _) | (with_reducible refine Kp.setCell ?_ _ ?_))) <;> (first | omega | (simp; done) | (simp; omega))))).mono ?_; rintro e v1 ⟨y, rfl, y0, y1, _, hd4, ob4, or4⟩; have y1 := y1 (by omega); have zv1 := ob4.size; (try simp at zv1); have vy0 : (w.heap.size + 1) < v1.heap.size := (by omega); have vn0 : (w.heap.size + 1) ≠ v1.heap.size := (by omega); have vm0 : v1.heap.size ≠ (w.heap.size + 1) := (by omega); have vy1 : w.heap.size < v1.heap.size := (by omega); have vn1 : w.heap.size ≠ v1.heap.size := (by omega); have vm1 : v1.heap.size ≠ w.heap.size := (by omega); have vk0 : v1.cell? ⟨(w.heap.size + 1), 0, none⟩ = some (.slice (some ⟨gg, 0, none⟩) k c1) := or4.keeps (by omega) (by first | (go_simp; done) | assumption); have vk1 : v1.cell? ⟨(w.heap.size + 1), 1, none⟩ = some (.slice a2 k2 c2) := or4.keeps (by omega) (by first | (go_simp; done) | assumption); have vk2 : v1.cell? ⟨w.heap.size, 0, none⟩ = some (.slice none 0 0) := or4.keeps (by omega) (by first | (go_simp; done) | assumption); have vk3 : v1.cell? ⟨w.heap.size, 1, none⟩ = some (.slice none 0 0) := or4.keeps (by omega) (by first | (go_simp; done) | assumption); have vf0 : v1.frozen? ⟨(w.heap.size + 1), 0, none⟩ = false := or4.free (by omega) (by first | omega | (simp; done) | (simp; omega)) (by first | (go_simp; done) | assumption); have vf1 : v1.frozen? ⟨(w.heap.size + 1), 1, none⟩ = false := or4.free (by omega) (by first | omega | (simp; done) | (simp; omega)) (by first | (go_simp; done) | assumption); have vf2 : v1.frozen? ⟨w.heap.size, 0, none⟩ = false := or4.free (by omega) (by first | omega | (simp; done) | (simp; omega)) (by first | (go_simp; done) | assumption); have vf3 : v1.frozen? ⟨w.heap.size, 1, none⟩ = false := or4.free (by omega) (by first | omega | (simp; done) | (simp; omega)) (by first | (go_simp; done) | assumption)) | (refine step_pushA _ rfl _ _ rfl (w.heap.size + 2) k2 c2 a2 os y v1.heap.size 1 (by rfl) (by rfl) (HO2.out.keep fun b hb => (by have hh := HO2.out.blk b hb; exact (by (repeat (first | with_reducible exact Kp.refl _ _ | (with_reducible refine Kp.rng ?_ (by assumption) ?_) | (with_reducible refine Kp.below ?_ (by assumption)) | (with_reducible refine Kp.grown ?_ (by assumption) ?_) | (with_reducible refine Kp.alloc ?_ _) | (with_reducible refine Kp.drew ?_) | (with_reducible refine Kp.drewN ?_ _) | (with_reducible refine Kp.setCell ?_ _ ?_))) <;> (first | omega | (simp; done) | (simp; omega))))) (by go_simp) (by omega) (by first | omega | (simp; done) | (simp; omega)) ?_; intro g4 d4 w4 ho4 hb4 hg4 hat4; have z4 := hb4.size; (try simp at z4); have y4 := hg4.size; (try simp at y4); have l4 := ho4.ge; have hgg := HO1.out.ge; have wk0 := grown_cellA hg4 (b := (w.heap.size + 1)) (o := 0) (x := .slice (some ⟨gg, 0, none⟩) k c1) (HO2.out.map_ne (by omega)) (by first | (go_simp; done) | assumption); have wk1 := grown_cellA hg4 (b := (w.heap.size + 1)) (o := 1) (x := .slice a2 k2 c2) (HO2.out.map_ne (by omega)) (by first | (go_simp; done) | assumption); have wk2 := grown_cellA hg4 (b := w.heap.size) (o := 0) (x := .slice none 0 0) (HO2.out.map_ne (by omega)) (by first | (go_simp; done) | assumption); have wk3 := grown_cellA hg4 (b := w.heap.size) (o := 1) (x := .slice none 0 0) (HO2.out.map_ne (by omega)) (by first | (go_simp; done) | assumption); have wf0 := grown_freeA hg4 (b := (w.heap.size + 1)) (o := 0) (HO2.out.map_ne (by omega)) (by first | omega | (simp; done) | (simp; omega)) (by first | (go_simp; done) | assumption); have wf1 := grown_freeA hg4 (b := (w.heap.size + 1)) (o := 1) (HO2.out.map_ne (by omega)) (by first | omega | (simp; done) | (simp; omega)) (by first | (go_simp; done) | assumption); have wf2 := grown_freeA hg4 (b := w.heap.size) (o := 0) (HO2.out.map_ne (by omega)) (by first | omega | (simp; done) | (simp; omega)) (by first | (go_simp; done) | assumption); have wf3 := grown_freeA hg4 (b := w.heap.size) (o := 1) (HO2.out.map_ne (by omega)) (by first | omega | (simp; done) | (simp; omega)) (by first | (go_simp; done) | assumption)))
          all_goals go_wp2_with fail
          all_goals go_roundw
          all_goals first
            | (show _ < _; simp [intOf]; omega)
            | exact ⟨k2 + 1, some ⟨g4, 0, none⟩, d4, os ++ [y], by omega, by go_num, by rw [List.length_append, HOL.out]; rfl, allB_one HALL.out ⟨y0, by omega⟩, (by first | (go_simp; done) | assumption), (by first | (go_simp; done) | assumption), (by first | (go_simp; done) | assumption), (by first | (go_simp; done) | assumption), (by first | (go_simp; done) | assumption), (by first | (go_simp; done) | assumption), (by first | (go_simp; done) | assumption), (by first | (go_simp; done) | assumption), HO1.out.later (by (repeat (first | with_reducible exact Kp.refl _ _ | (with_reducible refine Kp.rng ?_ (by assumption) ?_) | (with_reducible refine Kp.below ?_ (by assumption)) | (with_reducible refine Kp.grown ?_ (by assumption) ?_) | (with_reducible refine Kp.alloc ?_ _) | (with_reducible refine Kp.drew ?_) | (with_reducible refine Kp.drewN ?_ _) | (with_reducible refine Kp.setCell ?_ _ ?_))) <;> (first | omega | (simp; done) | (simp; omega) | (refine HO2.out.map_ne ?_; first | omega | (simp; omega)) | (refine map_ne_of ?_; exact HNE.out))), ho4.later (by (repeat (first | with_reducible exact Kp.refl _ _ | (with_reducible refine Kp.rng ?_ (by assumption) ?_) | (with_reducible refine Kp.below ?_ (by assumption)) | (with_reducible refine Kp.grown ?_ (by assumption) ?_) | (with_reducible refine Kp.alloc ?_ _) | (with_reducible refine Kp.drew ?_) | (with_reducible refine Kp.drewN ?_ _) | (with_reducible refine Kp.setCell ?_ _ ?_))) <;> (first | omega | (simp; done) | (simp; omega))), (fun a h => by (obtain rfl : _ = a := Option.some.inj h); rcases hat4 with hat4 | hat4; exact HNE.out _ hat4; (try simp at hat4); simp; omega), hd4.keep fun q hq => (by (repeat (first | with_reducible exact Kp.refl _ _ | (with_reducible refine Kp.rng ?_ (by assumption) ?_) | (with_reducible refine Kp.below ?_ (by assumption)) | (with_reducible refine Kp.grown ?_ (by assumption) ?_) | (with_reducible refine Kp.alloc ?_ _) | (with_reducible refine Kp.drew ?_) | (with_reducible refine Kp.drewN ?_ _) | (with_reducible refine Kp.setCell ?_ _ ?_))) <;> (first | omega | (simp; done) | (simp; omega) | (refine HO2.out.map_ne ?_; first | omega | (simp; omega)) | (refine map_ne_of ?_; exact HNE.out))), ⟨(by (repeat (first | with_reducible exact Below.refl _ _ | (with_reducible refine bel_next ?_ ?_ (by assumption)) | (with_reducible refine Below.alloc ?_ ?_ _) | (with_reducible refine Below.drew ?_) | (with_reducible refine below_drewN ?_ _) | (with_reducible refine Below.setCell ?_ ?_ _))) <;> (first | omega | (simp; done) | (simp; omega))), fun q hq => kp_of_lt fun hql => (by (repeat (first | with_reducible exact Kp.refl _ _ | (with_reducible refine Kp.rng ?_ (by assumption) ?_) | (with_reducible refine Kp.below ?_ (by assumption)) | (with_reducible refine Kp.grown ?_ (by assumption) ?_) | (with_reducible refine Kp.alloc ?_ _) | (with_reducible refine Kp.drew ?_) | (with_reducible refine Kp.drewN ?_ _) | (with_reducible refine Kp.setCell ?_ _ ?_))) <;> (first | omega | (simp; done) | (simp; omega) | (refine HO2.out.map_ne ?_; first | omega | (simp; omega)) | (refine map_ne_of ?_; exact HNE.out)))⟩, by simp [World.setCell]; omega⟩
        · go_wp2_with fail
          obtain ⟨g2, rfl, g21, g22⟩ := HO2.out.addr (by omega)
          refine bodyPost_ret (v := .agg #[.slice (some ⟨gg, 0, none⟩) k c1, .slice (some ⟨g2, 0, none⟩) k2 c2]) (by simp [results, Try.results78, go_sem, *]) rfl ?_
          refine ⟨gg, c1, g2, c2, gs, os, by rw [HGL.out, HOL.out], ⟨?_, by have := HGL.out; have := HKN.out; omega, by have := HGL.out; have := HKN.out; omega, by have := HOL.out; omega, by have := HOL.out; omega⟩, ?_, ?_, fun e => HNE.out _ rfl e.symm, hd3.keep fun q hq => (by (repeat (first | with_reducible exact Kp.refl _ _ | (with_reducible refine Kp.rng ?_ (by assumption) ?_) | (with_reducible refine Kp.below ?_ (by assumption)) | (with_reducible refine Kp.grown ?_ (by assumption) ?_) | (with_reducible refine Kp.alloc ?_ _) | (with_reducible refine Kp.drew ?_) | (with_reducible refine Kp.drewN ?_ _) | (with_reducible refine Kp.setCell ?_ _ ?_))) <;> (first | omega | (simp; done) | (simp; omega))), ⟨(by (repeat (first | with_reducible exact Below.refl _ _ | (with_reducible refine bel_next ?_ ?_ (by assumption)) | (with_reducible refine Below.alloc ?_ ?_ _) | (with_reducible refine Below.drew ?_) | (with_reducible refine below_drewN ?_ _) | (with_reducible refine Below.setCell ?_ ?_ _))) <;> (first | omega | (simp; done) | (simp; omega))), fun q hq => kp_of_lt fun hql => (by (repeat (first | with_reducible exact Kp.refl _ _ | (with_reducible refine Kp.rng ?_ (by assumption) ?_) | (with_reducible refine Kp.below ?_ (by assumption)) | (with_reducible refine Kp.grown ?_ (by assumption) ?_) | (with_reducible refine Kp.alloc ?_ _) | (with_reducible refine Kp.drew ?_) | (with_reducible refine Kp.drewN ?_ _) | (with_reducible refine Kp.setCell ?_ _ ?_))) <;> (first | omega | (simp; done) | (simp; omega)))⟩⟩
          · have h1 := HGL.out
            have h3 := HKN.out
            have h2 : ((gs.length : Int) - 1) = n := by omega
            simp [circOk, HOK.out, h2, HALL.out]; omega
          · rw [HGL.out]; exact (HO1.out.lo (by omega)).later (by (repeat (first | with_reducible exact Kp.refl _ _ | (with_reducible refine Kp.rng ?_ (by assumption) ?_) | (with_reducible refine Kp.below ?_ (by assumption)) | (with_reducible refine Kp.grown ?_ (by assumption) ?_) | (with_reducible refine Kp.alloc ?_ _) | (with_reducible refine Kp.drew ?_) | (with_reducible refine Kp.drewN ?_ _) | (with_reducible refine Kp.setCell ?_ _ ?_))) <;> (first | omega | (simp; done) | (simp; omega)))
          · rw [HOL.out]; exact (HO2.out.lo (by omega)).later (by (repeat (first | with_reducible exact Kp.refl _ _ | (with_reducible refine Kp.rng ?_ (by assumption) ?_) | (with_reducible refine Kp.below ?_ (by assumption)) | (with_reducible refine Kp.grown ?_ (by assumption) ?_) | (with_reducible refine Kp.alloc ?_ _) | (with_reducible refine Kp.drew ?_) | (with_reducible refine Kp.drewN ?_ _) | (with_reducible refine Kp.setCell ?_ _ ?_))) <;> (first | omega | (simp; done) | (simp; omega)))

set_option maxRecDepth 20000 in
set_option maxHeartbeats 4000000 in
theorem l13Input_dr (g : Nat) (xs : List Int) (ad : Option Addr) (c : Nat) (w : World) (hd : Dr w g xs ad c) :
    Calls Try.prog 79 #[.pointer (some ⟨g, 0, none⟩)] w fun e w' => ∃ (gb cb : Nat) (bs : List Int), e = .returned (.slice (some ⟨gb, 0, none⟩) bs.length cb) ∧ bitsB bs = true ∧
      Own w' w.heap.size 3 1 (some ⟨gb, 0, none⟩) bs.length cb (I64 bs) ∧ Dr w' g xs ad c ∧ Only g w w' := by
  have hgt := hd.gt
  go_enter Try.func79, Try.ntmps79
  go_wp2_with fail
  go_loopw [3, 4] (fun o i wr => ∃ (k gb cb : Nat) (bs : List Int), k ≤ 20 ∧ i = .int .i64 k ∧ o = .slice (some ⟨gb, 0, none⟩) k cb ∧ bs.length = k ∧ allB bs 0 1 = true ∧
      Own wr w.heap.size 3 1 (some ⟨gb, 0, none⟩) k cb (I64 bs) ∧ Dr wr g xs ad c ∧ Only g w wr) (fun _ i _ => 20 - (intOf i).toNat)
  case atStart =>
    refine ⟨0, w.heap.size, 0, [], by omega, rfl, rfl, rfl, rfl, ?_, hd.keep fun q hq => (by (repeat (first | with_reducible exact Kp.refl _ _ | (with_reducible refine Kp.rng ?_ (by assumption) ?_) | (with_reducible refine Kp.below ?_ (by assumption)) | (with_reducible refine Kp.grown ?_ (by assumption) ?_) | (with_reducible refine Kp.alloc ?_ _) | (with_reducible refine Kp.drew ?_) | (with_reducible refine Kp.drewN ?_ _) | (with_reducible refine Kp.setCell ?_ _ ?_))) <;> (first | omega | (simp; done) | (simp; omega))), ⟨(by (repeat (first | with_reducible exact Below.refl _ _ | (with_reducible refine bel_next ?_ ?_ (by assumption)) | (with_reducible refine Below.alloc ?_ ?_ _) | (with_reducible refine Below.drew ?_) | (with_reducible refine below_drewN ?_ _) | (with_reducible refine Below.setCell ?_ ?_ _))) <;> (first | omega | (simp; done) | (simp; omega))), fun q hq => kp_of_lt fun hql => (by (repeat (first | with_reducible exact Kp.refl _ _ | (with_reducible refine Kp.rng ?_ (by assumption) ?_) | (with_reducible refine Kp.below ?_ (by assumption)) | (with_reducible refine Kp.grown ?_ (by assumption) ?_) | (with_reducible refine Kp.alloc ?_ _) | (with_reducible refine Kp.drew ?_) | (with_reducible refine Kp.drewN ?_ _) | (with_reducible refine Kp.setCell ?_ _ ?_))) <;> (first | omega | (simp; done) | (simp; omega)))⟩⟩
    exact own_new w 3 1
  case round =>
    obtain ⟨k, gb, cb, bs, hk, rfl, rfl, hlen, hall, hown, hdr, ob0, or0⟩ := hrel
    have z0 := ob0.size
    have HO := Lib.hid hown
    have HL := Lib.hid hlen
    have HA := Lib.hid hall
    have ge0 := hown.ge
    clear hown hlen hall
    by_cases hlt : (k : Int) < 20
    · go_wp2_with fail
      refine (below_dr g xs ad c 2 _ hdr).mono ?_
      rintro e w1 ⟨v, rfl, v0, v1, _, hd1, ob1, or1⟩
      have v1 := v1 (by omega)
      have z1 := ob1.size
      go_wp2_with (refine wpList_push _ rfl _ _ rfl w.heap.size gb k cb bs v w1.heap.size 1 (by rfl) (by rfl) (HO.out.keep fun b hb => (by have hh := HO.out.blk b hb; exact (by (repeat (first | with_reducible exact Kp.refl _ _ | (with_reducible refine Kp.rng ?_ (by assumption) ?_) | (with_reducible refine Kp.below ?_ (by assumption)) | (with_reducible refine Kp.grown ?_ (by assumption) ?_) | (with_reducible refine Kp.alloc ?_ _) | (with_reducible refine Kp.drew ?_) | (with_reducible refine Kp.drewN ?_ _) | (with_reducible refine Kp.setCell ?_ _ ?_))) <;> (first | omega | (simp; done) | (simp; omega))))) (by go_simp) (by omega) (by first | omega | (simp; done) | (simp; omega)) ?_; intro g4 c4 w4 ho4 hb4 hg4 hat4; (try simp at hat4); have z4 := hb4.size; (try simp at z4); have y4 := hg4.size; (try simp at y4); have ge4 := ho4.ge)
      go_roundw
      case rel => exact ⟨k + 1, g4, c4, bs ++ [v], by omega, by go_num, rfl, by rw [List.length_append, HL.out]; rfl, allB_one HA.out ⟨v0, by omega⟩, ho4, hd1.keep fun q hq => (by (repeat (first | with_reducible exact Kp.refl _ _ | (with_reducible refine Kp.rng ?_ (by assumption) ?_) | (with_reducible refine Kp.below ?_ (by assumption)) | (with_reducible refine Kp.grown ?_ (by assumption) ?_) | (with_reducible refine Kp.alloc ?_ _) | (with_reducible refine Kp.drew ?_) | (with_reducible refine Kp.drewN ?_ _) | (with_reducible refine Kp.setCell ?_ _ ?_))) <;> (first | omega | (simp; done) | (simp; omega))), ⟨(by (repeat (first | with_reducible exact Below.refl _ _ | (with_reducible refine bel_next ?_ ?_ (by assumption)) | (with_reducible refine Below.alloc ?_ ?_ _) | (with_reducible refine Below.drew ?_) | (with_reducible refine below_drewN ?_ _) | (with_reducible refine Below.setCell ?_ ?_ _))) <;> (first | omega | (simp; done) | (simp; omega))), fun q hq => kp_of_lt fun hql => (by (repeat (first | with_reducible exact Kp.refl _ _ | (with_reducible refine Kp.rng ?_ (by assumption) ?_) | (with_reducible refine Kp.below ?_ (by assumption)) | (with_reducible refine Kp.grown ?_ (by assumption) ?_) | (with_reducible refine Kp.alloc ?_ _) | (with_reducible refine Kp.drew ?_) | (with_reducible refine Kp.drewN ?_ _) | (with_reducible refine Kp.setCell ?_ _ ?_))) <;> (first | omega | (simp; done) | (simp; omega)))⟩⟩
      case measure => simp [intOf]; omega
    · obtain rfl : k = 20 := by omega
      go_wp2_with (refine wpList_appZ _ rfl _ _ rfl w.heap.size gb 20 cb 60 (I64 bs) (by rfl) (by rfl) HO.out (by omega) (by omega) (by first | omega | (simp; done) | (simp; omega)) ?_; intro g4 c4 w4 ho4 hb4 hg4 hat4; (try simp at hat4); have z4 := hb4.size; (try simp at z4); have y4 := hg4.size; (try simp at y4); have ge4 := ho4.ge)
      go_ret
      have hl : (bs ++ List.replicate 60 (0 : Int)).length = 80 := by rw [List.length_append, HL.out, List.length_replicate]
      refine ⟨g4, c4, bs ++ List.replicate 60 0, by rw [hl]; rfl, ?_, ?_, hdr.keep fun q hq => (by (repeat (first | with_reducible exact Kp.refl _ _ | (with_reducible refine Kp.rng ?_ (by assumption) ?_) | (with_reducible refine Kp.below ?_ (by assumption)) | (with_reducible refine Kp.grown ?_ (by assumption) ?_) | (with_reducible refine Kp.alloc ?_ _) | (with_reducible refine Kp.drew ?_) | (with_reducible refine Kp.drewN ?_ _) | (with_reducible refine Kp.setCell ?_ _ ?_))) <;> (first | omega | (simp; done) | (simp; omega))), ⟨(by (repeat (first | with_reducible exact Below.refl _ _ | (with_reducible refine bel_next ?_ ?_ (by assumption)) | (with_reducible refine Below.alloc ?_ ?_ _) | (with_reducible refine Below.drew ?_) | (with_reducible refine below_drewN ?_ _) | (with_reducible refine Below.setCell ?_ ?_ _))) <;> (first | omega | (simp; done) | (simp; omega))), fun q hq => kp_of_lt fun hql => (by (repeat (first | with_reducible exact Kp.refl _ _ | (with_reducible refine Kp.rng ?_ (by assumption) ?_) | (with_reducible refine Kp.below ?_ (by assumption)) | (with_reducible refine Kp.grown ?_ (by assumption) ?_) | (with_reducible refine Kp.alloc ?_ _) | (with_reducible refine Kp.drew ?_) | (with_reducible refine Kp.drewN ?_ _) | (with_reducible refine Kp.setCell ?_ _ ?_))) <;> (first | omega | (simp; done) | (simp; omega)))⟩⟩
      · unfold bitsB
        rw [hl]
        simp only [decide_true, Bool.true_and, allB_iff]
        intro x hx
        rcases List.mem_append.1 hx with hx | hx
        · exact allB_iff.1 HA.out x hx
        · rw [List.eq_of_mem_replicate hx]; omega
      · rw [hl, I64_append, show I64 (List.replicate 60 0) = List.replicate 60 (Value.int .i64 0) from by simp [I64]]
        exact ho4

end Go.Proofs.Ytfpblgbokmpmjaa

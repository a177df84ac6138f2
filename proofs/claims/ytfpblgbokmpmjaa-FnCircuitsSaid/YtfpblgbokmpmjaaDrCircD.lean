/- A drawn circuit and its input bits. -/
import Derived.Test.YtfpblgbokmpmjaaDrCirc
import Derived.Deep.RegionHeld3
import Derived.Deep.RegionLaw
namespace Go.Proofs.Ytfpblgbokmpmjaa
open Go.RowKit
set_option linter.unusedVariables false
set_option linter.unusedSimpArgs false

set_option maxRecDepth 20000 in
set_option maxHeartbeats 4000000 in
theorem DrawCircuit_any (xs : List Int) (ad : Option Addr) (c : Nat) (w : World) (hm : xs.length ≤ 1048576) (hr : RdC w ad (xs.map (Value.int .u8))) (hb : ∀ x ∈ xs, 0 ≤ x ∧ x ≤ 255) :
    Calls Try.prog 45 #[.slice ad xs.length c] w fun e w' => ∃ (g1 c1 g2 c2 gb cb : Nat) (gs : List Gt) (os bs : List Int), e = .returned (.tuple #[.agg #[.slice (some ⟨g1, 0, none⟩) gs.length c1, .slice (some ⟨g2, 0, none⟩) os.length c2], .slice (some ⟨gb, 0, none⟩) bs.length cb]) ∧ DCirc gs os ∧ bitsB bs = true ∧
      Own w' w.heap.size 50 3 (some ⟨g1, 0, none⟩) gs.length c1 (gtCells gs) ∧ Own w' w.heap.size 3 1 (some ⟨g2, 0, none⟩) os.length c2 (I64 os) ∧ Own w' w.heap.size 3 1 (some ⟨gb, 0, none⟩) bs.length cb (I64 bs) ∧ g1 ≠ g2 ∧ Below w.heap.size w w' := by
  go_enter Try.func45, Try.ntmps45
  go_wp2_with fail
  obtain ⟨w0, hw0⟩ : ∃ W, W = w.alloc (.cells #[.slice none 0 0, .slice none 0 0] 30) := ⟨_, rfl⟩
  rw [← hw0]
  have hb0 : Below w.heap.size w w0 := by rw [hw0]; exact (Below.refl _ _).alloc (Nat.le_refl _) _
  have x0 : w.heap.size < w0.heap.size := by rw [hw0]; simp
  have k0_0 : w0.cell? ⟨w.heap.size, 0, none⟩ = some (.slice none 0 0) := by rw [hw0]; go_simp
  have k0_1 : w0.cell? ⟨w.heap.size, 1, none⟩ = some (.slice none 0 0) := by rw [hw0]; go_simp
  have f0_0 : w0.frozen? ⟨w.heap.size, 0, none⟩ = false := by rw [hw0]; go_simp
  have f0_1 : w0.frozen? ⟨w.heap.size, 1, none⟩ = false := by rw [hw0]; go_simp
  clear hw0
  refine (l01New_any xs ad c _ hm (hr.below (by (repeat (first | with_reducible exact Below.refl _ _ | (with_reducible refine bel_next ?_ ?_ (by assumption)) | (with_reducible refine Below.alloc ?_ ?_ _) | (with_reducible refine Below.drew ?_) | (with_reducible refine below_drewN ?_ _) | (with_reducible refine Below.setCell ?_ ?_ _))) <;> (first | omega | (simp; done) | (simp; omega)))) hb).mono ?_
  rintro e w1 ⟨g, rfl, hgl, hd1, hb1⟩
  have z1 := hb1.size
  have hg1 := hd1.gt
  have k1_0 := bel_keeps hb1 (b := w.heap.size) (o := 0) (v := .slice none 0 0) k0_0
  have k1_1 := bel_keeps hb1 (b := w.heap.size) (o := 1) (v := .slice none 0 0) k0_1
  have f1_0 := bel_free hb1 (b := w.heap.size) (o := 0) (by first | omega | (simp; done) | (simp; omega)) f0_0
  have f1_1 := bel_free hb1 (b := w.heap.size) (o := 1) (by first | omega | (simp; done) | (simp; omega)) f0_1
  clear k0_0 k0_1 f0_0 f0_1
  go_wp2_with fail
  refine (l13Case_dr g xs ad c _ hd1).mono ?_
  rintro e w2 ⟨g1, c1, g2, c2, gs, os, rfl, hdc, ho1, ho2, hne, hd2, ob2, or2⟩
  have z2 := ob2.size
  have ge1 := ho1.ge
  have ge2 := ho2.ge
  have y2 : w.heap.size < w2.heap.size := by omega
  have k2_0 : w2.cell? ⟨w.heap.size, 0, none⟩ = some (.slice none 0 0) := or2.keeps (by omega) k1_0
  have k2_1 : w2.cell? ⟨w.heap.size, 1, none⟩ = some (.slice none 0 0) := or2.keeps (by omega) k1_1
  have f2_0 : w2.frozen? ⟨w.heap.size, 0, none⟩ = false := or2.free (by omega) (by first | omega | (simp; done) | (simp; omega)) f1_0
  have f2_1 : w2.frozen? ⟨w.heap.size, 1, none⟩ = false := or2.free (by omega) (by first | omega | (simp; done) | (simp; omega)) f1_1
  clear k1_0 k1_1 f1_0 f1_1
  have n2a : w.heap.size ≠ w2.heap.size := by omega
  have n2b : w2.heap.size ≠ w.heap.size := by omega
  go_wp2_with fail
  go_region_with (first | (go_at_call 79; refine (l13Input_dr g xs ad c _ (hd2.keep fun q hq => (by (repeat (first | with_reducible exact Kp.refl _ _ | (with_reducible refine Kp.rng ?_ (by assumption) ?_) | (with_reducible refine Kp.below ?_ (by assumption)) | (with_reducible refine Kp.grown ?_ (by assumption) ?_) | (with_reducible refine Kp.alloc ?_ _) | (with_reducible refine Kp.drew ?_) | (with_reducible refine Kp.drewN ?_ _) | (with_reducible refine Kp.setCell ?_ _ ?_))) <;> (first | omega | (simp; done) | (simp; omega))))).mono ?_; rintro e w3 ⟨gb, cb, bs, rfl, hbits, hob, hd3, ob3, or3⟩; have z3 := ob3.size; (try simp at z3); have geo := hob.ge; (try simp at geo); have y3_0 : w.heap.size < w3.heap.size := (by omega); have y3_1 : w2.heap.size < w3.heap.size := (by omega); have k3_0 : w3.cell? ⟨w2.heap.size, 0, none⟩ = some (.slice (some ⟨g1, 0, none⟩) gs.length c1) := or3.keeps (by omega) (by first | (go_simp; done) | assumption); have k3_1 : w3.cell? ⟨w2.heap.size, 1, none⟩ = some (.slice (some ⟨g2, 0, none⟩) os.length c2) := or3.keeps (by omega) (by first | (go_simp; done) | assumption); (try have q3_0 : w3.cell? ⟨w.heap.size, 0, none⟩ = some (.slice (some ⟨g1, 0, none⟩) gs.length c1) := or3.keeps (by omega) (by first | (go_simp; done) | assumption)); (try have q3_1 : w3.cell? ⟨w.heap.size, 1, none⟩ = some (.slice (some ⟨g2, 0, none⟩) os.length c2) := or3.keeps (by omega) (by first | (go_simp; done) | assumption)); (try have n3_0 : w3.cell? ⟨w.heap.size, 0, none⟩ = some (.slice none 0 0) := or3.keeps (by omega) (by first | (go_simp; done) | assumption)); (try have n3_1 : w3.cell? ⟨w.heap.size, 1, none⟩ = some (.slice none 0 0) := or3.keeps (by omega) (by first | (go_simp; done) | assumption)); have f3_0 : w3.frozen? ⟨w.heap.size, 0, none⟩ = false := or3.free (by omega) (by first | omega | (simp; done) | (simp; omega)) (by first | (go_simp; done) | assumption); have f3_1 : w3.frozen? ⟨w.heap.size, 1, none⟩ = false := or3.free (by omega) (by first | omega | (simp; done) | (simp; omega)) (by first | (go_simp; done) | assumption)))
  all_goals go_wp2_with fail
  all_goals refine bodyPost_ret (v := .tuple #[.agg #[.slice (some ⟨g1, 0, none⟩) gs.length c1, .slice (some ⟨g2, 0, none⟩) os.length c2], .slice (some ⟨gb, 0, none⟩) bs.length cb]) (by simp [results, Try.results45, go_sem, *]) rfl ?_
  all_goals exact ⟨g1, c1, g2, c2, gb, cb, gs, os, bs, rfl, hdc, hbits, (ho1.lo (by omega)).later (by (repeat (first | with_reducible exact Kp.refl _ _ | (with_reducible refine Kp.rng ?_ (by assumption) ?_) | (with_reducible refine Kp.below ?_ (by assumption)) | (with_reducible refine Kp.grown ?_ (by assumption) ?_) | (with_reducible refine Kp.alloc ?_ _) | (with_reducible refine Kp.drew ?_) | (with_reducible refine Kp.drewN ?_ _) | (with_reducible refine Kp.setCell ?_ _ ?_))) <;> (first | omega | (simp; done) | (simp; omega))), (ho2.lo (by omega)).later (by (repeat (first | with_reducible exact Kp.refl _ _ | (with_reducible refine Kp.rng ?_ (by assumption) ?_) | (with_reducible refine Kp.below ?_ (by assumption)) | (with_reducible refine Kp.grown ?_ (by assumption) ?_) | (with_reducible refine Kp.alloc ?_ _) | (with_reducible refine Kp.drew ?_) | (with_reducible refine Kp.drewN ?_ _) | (with_reducible refine Kp.setCell ?_ _ ?_))) <;> (first | omega | (simp; done) | (simp; omega))), (hob.lo (by first | omega | (simp; done) | (simp; omega))).later (by (repeat (first | with_reducible exact Kp.refl _ _ | (with_reducible refine Kp.rng ?_ (by assumption) ?_) | (with_reducible refine Kp.below ?_ (by assumption)) | (with_reducible refine Kp.grown ?_ (by assumption) ?_) | (with_reducible refine Kp.alloc ?_ _) | (with_reducible refine Kp.drew ?_) | (with_reducible refine Kp.drewN ?_ _) | (with_reducible refine Kp.setCell ?_ _ ?_))) <;> (first | omega | (simp; done) | (simp; omega))), hne, (by (repeat (first | with_reducible exact Below.refl _ _ | (with_reducible refine bel_next ?_ ?_ (by assumption)) | (with_reducible refine Below.alloc ?_ ?_ _) | (with_reducible refine Below.drew ?_) | (with_reducible refine below_drewN ?_ _) | (with_reducible refine Below.setCell ?_ ?_ _))) <;> (first | omega | (simp; done) | (simp; omega)))⟩

end Go.Proofs.Ytfpblgbokmpmjaa

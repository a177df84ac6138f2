/- Optimize, both. -/
import Derived.Test.YtfpblgbokmpmjaaSimpQ
import Derived.Test.YtfpblgbokmpmjaaSimpR
import Derived.Test.YtfpblgbokmpmjaaPruneF2
import Derived.Deep.RegionHeld3
import Derived.Deep.RegionLaw
namespace Go.Proofs.Ytfpblgbokmpmjaa
open Go.RowKit
set_option linter.unusedVariables false
set_option linter.unusedSimpArgs false

theorem smG_len (gs : List Gt) (os : List Int) : (smG gs os).length ≤ gs.length := by
  unfold smG; split
  · rename_i h; exact simp_len h
  · exact Nat.le_refl _
theorem smO_len (gs : List Gt) (os : List Int) : (smO gs os).length ≤ os.length := by
  unfold smO; split
  · simp [simpO]
  · exact Nat.le_refl _
def opG (gs : List Gt) (os : List Int) : List Gt := prG (smG gs os) (smO gs os)
def opO (gs : List Gt) (os : List Int) : List Int := prO (smG gs os) (smO gs os)
theorem opG_len (gs : List Gt) (os : List Int) : (opG gs os).length ≤ gs.length := Nat.le_trans (prG_len _ _) (smG_len _ _)
theorem opO_len (gs : List Gt) (os : List Int) : (opO gs os).length ≤ os.length := Nat.le_trans (prO_len _ _) (smO_len _ _)

set_option maxRecDepth 20000 in
set_option maxHeartbeats 4000000 in
theorem sOptimize_any (gs : List Gt) (os : List Int) (a1 a2 : Option Addr) (c1 c2 : Nat) (w : World) (hm : gs.length ≤ 1048576) (hm2 : os.length ≤ 1048576) (hr : RdC w a1 (gtCells gs)) (hr2 : RdC w a2 (I64 os)) :
    Calls Try.prog 42 #[.agg #[.slice a1 gs.length c1, .slice a2 os.length c2]] w fun e w' => ∃ b1 d1 b2 d2, e = .returned (.agg #[.slice b1 (opG gs os).length d1, .slice b2 (opO gs os).length d2]) ∧
      Own w' w.heap.size 50 3 b1 (opG gs os).length d1 (gtCells (opG gs os)) ∧ Own w' w.heap.size 3 1 b2 (opO gs os).length d2 (I64 (opO gs os)) ∧ (∀ x y, b1 = some x → b2 = some y → x.block ≠ y.block) ∧ Below w.heap.size w w' := by
  have HR := Lib.hid hr
  have HR2 := Lib.hid hr2
  clear hr hr2
  have nH : w.heap.size ≠ w.heap.size + 1 := by omega
  have l1 := smG_len gs os
  have l2 := smO_len gs os
  obtain ⟨SG, hSG⟩ : ∃ x, x = smG gs os := ⟨_, rfl⟩
  obtain ⟨SO, hSO⟩ : ∃ x, x = smO gs os := ⟨_, rfl⟩
  rw [← hSG] at l1
  rw [← hSO] at l2
  obtain ⟨PG, hPG⟩ : ∃ x, x = prG SG SO := ⟨_, rfl⟩
  obtain ⟨PO, hPO⟩ : ∃ x, x = prO SG SO := ⟨_, rfl⟩
  rw [show opG gs os = PG by rw [hPG, hSG, hSO]; rfl, show opO gs os = PO by rw [hPO, hSG, hSO]; rfl]
  have HSG := Lib.hid hSG
  have HSO := Lib.hid hSO
  have HPG := Lib.hid hPG
  have HPO := Lib.hid hPO
  clear hSG hSO hPG hPO
  go_enter Try.func42, Try.ntmps42
  go_wp2_with fail
  have hcc := sSimplify_any gs os a1 a2 c1 c2 ((w.alloc (.cells #[.slice a1 gs.length c1, .slice a2 os.length c2] 30)).alloc (.cells #[.slice none 0 0, .slice none 0 0] 30)) hm hm2 (HR.out.below (by (repeat (first | with_reducible exact Below.refl _ _ | (with_reducible refine bel_next ?_ ?_ (by assumption)) | (with_reducible refine Below.alloc ?_ ?_ _) | (with_reducible refine Below.drew ?_) | (with_reducible refine below_drewN ?_ _) | (with_reducible refine Below.setCell ?_ ?_ _))) <;> (first | omega | (simp; done) | (simp; omega)))) (HR2.out.below (by (repeat (first | with_reducible exact Below.refl _ _ | (with_reducible refine bel_next ?_ ?_ (by assumption)) | (with_reducible refine Below.alloc ?_ ?_ _) | (with_reducible refine Below.drew ?_) | (with_reducible refine below_drewN ?_ _) | (with_reducible refine Below.setCell ?_ ?_ _))) <;> (first | omega | (simp; done) | (simp; omega))))
  rw [← HSG.out, ← HSO.out] at hcc
  refine hcc.mono ?_
  clear hcc
  rintro e w1 ⟨b1, d1, b2, d2, rfl, ho1, ho2, hne, hb1⟩
  have z1 := hb1.size
  (try simp at z1)
  have y1a : w.heap.size < w1.heap.size := (by omega)
  have y1b : w.heap.size + 1 < w1.heap.size := (by omega)
  have k1_0 := bel_keeps hb1 (b := w.heap.size) (o := 0) (v := .slice a1 gs.length c1) (by first | (go_simp; done) | assumption)
  have k1_1 := bel_keeps hb1 (b := w.heap.size) (o := 1) (v := .slice a2 os.length c2) (by first | (go_simp; done) | assumption)
  have k1_2 := bel_keeps hb1 (b := w.heap.size + 1) (o := 0) (v := .slice none 0 0) (by first | (go_simp; done) | assumption)
  have k1_3 := bel_keeps hb1 (b := w.heap.size + 1) (o := 1) (v := .slice none 0 0) (by first | (go_simp; done) | assumption)
  have f1_0 := bel_free hb1 (b := w.heap.size + 1) (o := 0) (by first | omega | (simp; done) | (simp; omega)) (by first | (go_simp; done) | assumption)
  have f1_1 := bel_free hb1 (b := w.heap.size + 1) (o := 1) (by first | omega | (simp; done) | (simp; omega)) (by first | (go_simp; done) | assumption)
  have HO1 := Lib.hid ho1.rd
  have HO2 := Lib.hid ho2.rd
  clear ho1 ho2 hne
  go_wp2_with fail
  have hcc := sPrune_any SG SO b1 b2 d1 d2 w1 (by omega) (by omega) HO1.out HO2.out
  rw [← HPG.out, ← HPO.out] at hcc
  refine hcc.mono ?_
  clear hcc
  rintro e w2 ⟨b3, d3, b4, d4, rfl, ho3, ho4, hne, hb2⟩
  have z2 := hb2.size
  (try simp at z2)
  have y2a : w.heap.size < w2.heap.size := (by omega)
  have y2b : w.heap.size + 1 < w2.heap.size := (by omega)
  have k2_0 := bel_keeps hb2 (b := w.heap.size) (o := 0) (v := .slice a1 gs.length c1) (by first | (go_simp; done) | assumption)
  have k2_1 := bel_keeps hb2 (b := w.heap.size) (o := 1) (v := .slice a2 os.length c2) (by first | (go_simp; done) | assumption)
  have k2_2 := bel_keeps hb2 (b := w.heap.size + 1) (o := 0) (v := .slice none 0 0) (by first | (go_simp; done) | assumption)
  have k2_3 := bel_keeps hb2 (b := w.heap.size + 1) (o := 1) (v := .slice none 0 0) (by first | (go_simp; done) | assumption)
  have f2_0 := bel_free hb2 (b := w.heap.size + 1) (o := 0) (by first | omega | (simp; done) | (simp; omega)) (by first | (go_simp; done) | assumption)
  have f2_1 := bel_free hb2 (b := w.heap.size + 1) (o := 1) (by first | omega | (simp; done) | (simp; omega)) (by first | (go_simp; done) | assumption)
  clear k1_0 k1_1 k1_2 k1_3 f1_0 f1_1
  go_wp2_with fail
  refine bodyPost_ret (v := .agg #[.slice b3 PG.length d3, .slice b4 PO.length d4]) (by simp [results, Try.results42, go_sem, *]) rfl ?_
  refine ⟨b3, d3, b4, d4, rfl, ?_, ?_, hne, (by (repeat (first | with_reducible exact Below.refl _ _ | (with_reducible refine bel_next ?_ ?_ (by assumption)) | (with_reducible refine Below.alloc ?_ ?_ _) | (with_reducible refine Below.drew ?_) | (with_reducible refine below_drewN ?_ _) | (with_reducible refine Below.setCell ?_ ?_ _))) <;> (first | omega | (simp; done) | (simp; omega)))⟩
  · exact (ho3.lo (by omega)).keep fun x hx => (by have hh := ho3.blk x hx; exact (by (repeat (first | with_reducible exact Kp.refl _ _ | (with_reducible refine Kp.rng ?_ (by assumption) ?_) | (with_reducible refine Kp.below ?_ (by assumption)) | (with_reducible refine Kp.grown ?_ (by assumption) ?_) | (with_reducible refine Kp.alloc ?_ _) | (with_reducible refine Kp.drew ?_) | (with_reducible refine Kp.drewN ?_ _) | (with_reducible refine Kp.setCell ?_ _ ?_))) <;> (first | omega | (simp; done) | (simp; omega))))
  · exact (ho4.lo (by omega)).keep fun x hx => (by have hh := ho4.blk x hx; exact (by (repeat (first | with_reducible exact Kp.refl _ _ | (with_reducible refine Kp.rng ?_ (by assumption) ?_) | (with_reducible refine Kp.below ?_ (by assumption)) | (with_reducible refine Kp.grown ?_ (by assumption) ?_) | (with_reducible refine Kp.alloc ?_ _) | (with_reducible refine Kp.drew ?_) | (with_reducible refine Kp.drewN ?_ _) | (with_reducible refine Kp.setCell ?_ _ ?_))) <;> (first | omega | (simp; done) | (simp; omega))))
set_option maxRecDepth 20000 in
set_option maxHeartbeats 4000000 in
theorem iOptimize_any (gs : List Gt) (os : List Int) (a1 a2 : Option Addr) (c1 c2 : Nat) (w : World) (hm : gs.length ≤ 1048576) (hm2 : os.length ≤ 1048576) (hr : RdC w a1 (gtCells gs)) (hr2 : RdC w a2 (I64 os)) :
    Calls Try.prog 43 #[.agg #[.slice a1 gs.length c1, .slice a2 os.length c2]] w fun e w' => ∃ b1 d1 b2 d2, e = .returned (.agg #[.slice b1 (opG gs os).length d1, .slice b2 (opO gs os).length d2]) ∧
      Own w' w.heap.size 50 3 b1 (opG gs os).length d1 (gtCells (opG gs os)) ∧ Own w' w.heap.size 3 1 b2 (opO gs os).length d2 (I64 (opO gs os)) ∧ (∀ x y, b1 = some x → b2 = some y → x.block ≠ y.block) ∧ Below w.heap.size w w' := by
  have HR := Lib.hid hr
  have HR2 := Lib.hid hr2
  clear hr hr2
  have nH : w.heap.size ≠ w.heap.size + 1 := by omega
  have l1 := smG_len gs os
  have l2 := smO_len gs os
  obtain ⟨SG, hSG⟩ : ∃ x, x = smG gs os := ⟨_, rfl⟩
  obtain ⟨SO, hSO⟩ : ∃ x, x = smO gs os := ⟨_, rfl⟩
  rw [← hSG] at l1
  rw [← hSO] at l2
  obtain ⟨PG, hPG⟩ : ∃ x, x = prG SG SO := ⟨_, rfl⟩
  obtain ⟨PO, hPO⟩ : ∃ x, x = prO SG SO := ⟨_, rfl⟩
  rw [show opG gs os = PG by rw [hPG, hSG, hSO]; rfl, show opO gs os = PO by rw [hPO, hSG, hSO]; rfl]
  have HSG := Lib.hid hSG
  have HSO := Lib.hid hSO
  have HPG := Lib.hid hPG
  have HPO := Lib.hid hPO
  clear hSG hSO hPG hPO
  go_enter Try.func43, Try.ntmps43
  go_wp2_with fail
  have hcc := iSimplify_any gs os a1 a2 c1 c2 ((w.alloc (.cells #[.slice a1 gs.length c1, .slice a2 os.length c2] 30)).alloc (.cells #[.slice none 0 0, .slice none 0 0] 30)) hm hm2 (HR.out.below (by (repeat (first | with_reducible exact Below.refl _ _ | (with_reducible refine bel_next ?_ ?_ (by assumption)) | (with_reducible refine Below.alloc ?_ ?_ _) | (with_reducible refine Below.drew ?_) | (with_reducible refine below_drewN ?_ _) | (with_reducible refine Below.setCell ?_ ?_ _))) <;> (first | omega | (simp; done) | (simp; omega)))) (HR2.out.below (by (repeat (first | with_reducible exact Below.refl _ _ | (with_reducible refine bel_next ?_ ?_ (by assumption)) | (with_reducible refine Below.alloc ?_ ?_ _) | (with_reducible refine Below.drew ?_) | (with_reducible refine below_drewN ?_ _) | (with_reducible refine Below.setCell ?_ ?_ _))) <;> (first | omega | (simp; done) | (simp; omega))))
  rw [← HSG.out, ← HSO.out] at hcc
  refine hcc.mono ?_
  clear hcc
  rintro e w1 ⟨b1, d1, b2, d2, rfl, ho1, ho2, hne, hb1⟩
  have z1 := hb1.size
  (try simp at z1)
  have y1a : w.heap.size < w1.heap.size := (by omega)
  have y1b : w.heap.size + 1 < w1.heap.size := (by omega)
  have k1_0 := bel_keeps hb1 (b := w.heap.size) (o := 0) (v := .slice a1 gs.length c1) (by first | (go_simp; done) | assumption)
  have k1_1 := bel_keeps hb1 (b := w.heap.size) (o := 1) (v := .slice a2 os.length c2) (by first | (go_simp; done) | assumption)
  have k1_2 := bel_keeps hb1 (b := w.heap.size + 1) (o := 0) (v := .slice none 0 0) (by first | (go_simp; done) | assumption)
  have k1_3 := bel_keeps hb1 (b := w.heap.size + 1) (o := 1) (v := .slice none 0 0) (by first | (go_simp; done) | assumption)
  have f1_0 := bel_free hb1 (b := w.heap.size + 1) (o := 0) (by first | omega | (simp; done) | (simp; omega)) (by first | (go_simp; done) | assumption)
  have f1_1 := bel_free hb1 (b := w.heap.size + 1) (o := 1) (by first | omega | (simp; done) | (simp; omega)) (by first | (go_simp; done) | assumption)
  have HO1 := Lib.hid ho1.rd
  have HO2 := Lib.hid ho2.rd
  clear ho1 ho2 hne
  go_wp2_with fail
  have hcc := iPrune_any SG SO b1 b2 d1 d2 w1 (by omega) (by omega) HO1.out HO2.out
  rw [← HPG.out, ← HPO.out] at hcc
  refine hcc.mono ?_
  clear hcc
  rintro e w2 ⟨b3, d3, b4, d4, rfl, ho3, ho4, hne, hb2⟩
  have z2 := hb2.size
  (try simp at z2)
  have y2a : w.heap.size < w2.heap.size := (by omega)
  have y2b : w.heap.size + 1 < w2.heap.size := (by omega)
  have k2_0 := bel_keeps hb2 (b := w.heap.size) (o := 0) (v := .slice a1 gs.length c1) (by first | (go_simp; done) | assumption)
  have k2_1 := bel_keeps hb2 (b := w.heap.size) (o := 1) (v := .slice a2 os.length c2) (by first | (go_simp; done) | assumption)
  have k2_2 := bel_keeps hb2 (b := w.heap.size + 1) (o := 0) (v := .slice none 0 0) (by first | (go_simp; done) | assumption)
  have k2_3 := bel_keeps hb2 (b := w.heap.size + 1) (o := 1) (v := .slice none 0 0) (by first | (go_simp; done) | assumption)
  have f2_0 := bel_free hb2 (b := w.heap.size + 1) (o := 0) (by first | omega | (simp; done) | (simp; omega)) (by first | (go_simp; done) | assumption)
  have f2_1 := bel_free hb2 (b := w.heap.size + 1) (o := 1) (by first | omega | (simp; done) | (simp; omega)) (by first | (go_simp; done) | assumption)
  clear k1_0 k1_1 k1_2 k1_3 f1_0 f1_1
  go_wp2_with fail
  refine bodyPost_ret (v := .agg #[.slice b3 PG.length d3, .slice b4 PO.length d4]) (by simp [results, Try.results43, go_sem, *]) rfl ?_
  refine ⟨b3, d3, b4, d4, rfl, ?_, ?_, hne, (by (repeat (first | with_reducible exact Below.refl _ _ | (with_reducible refine bel_next ?_ ?_ (by assumption)) | (with_reducible refine Below.alloc ?_ ?_ _) | (with_reducible refine Below.drew ?_) | (with_reducible refine below_drewN ?_ _) | (with_reducible refine Below.setCell ?_ ?_ _))) <;> (first | omega | (simp; done) | (simp; omega)))⟩
  · exact (ho3.lo (by omega)).keep fun x hx => (by have hh := ho3.blk x hx; exact (by (repeat (first | with_reducible exact Kp.refl _ _ | (with_reducible refine Kp.rng ?_ (by assumption) ?_) | (with_reducible refine Kp.below ?_ (by assumption)) | (with_reducible refine Kp.grown ?_ (by assumption) ?_) | (with_reducible refine Kp.alloc ?_ _) | (with_reducible refine Kp.drew ?_) | (with_reducible refine Kp.drewN ?_ _) | (with_reducible refine Kp.setCell ?_ _ ?_))) <;> (first | omega | (simp; done) | (simp; omega))))
  · exact (ho4.lo (by omega)).keep fun x hx => (by have hh := ho4.blk x hx; exact (by (repeat (first | with_reducible exact Kp.refl _ _ | (with_reducible refine Kp.rng ?_ (by assumption) ?_) | (with_reducible refine Kp.below ?_ (by assumption)) | (with_reducible refine Kp.grown ?_ (by assumption) ?_) | (with_reducible refine Kp.alloc ?_ _) | (with_reducible refine Kp.drew ?_) | (with_reducible refine Kp.drewN ?_ _) | (with_reducible refine Kp.setCell ?_ _ ?_))) <;> (first | omega | (simp; done) | (simp; omega))))
end Go.Proofs.Ytfpblgbokmpmjaa

/- The walk of the law FnExactOptimize. -/
import Derived.Test.YtfpblgbokmpmjaaCircM
import Derived.Test.YtfpblgbokmpmjaaOpt
import Derived.Test.YtfpblgbokmpmjaaShare
import Derived.Deep.RegionHeld3
namespace Go.Proofs.Ytfpblgbokmpmjaa
open Go.RowKit
set_option linter.unusedVariables false
set_option linter.unusedSimpArgs false

set_option maxRecDepth 20000 in
set_option maxHeartbeats 16000000 in
theorem walk_FnExactOptimize (w : World) (ns00 : List Int) (len00 : Nat) (ad00 : Option Addr) (cap00 : Nat) (e00 : ns00.length = len00 * 3) (hm00 : len00 ≤ maxLen) (hr00 : RdC w ad00 (I64 ns00)) (xs01 : List Int) (ad01 : Option Addr) (cap01 : Nat) (hm01 : xs01.length ≤ maxLen) (hr01 : RdC w ad01 (I64 xs01)) :
    Calls Try.prog 11 #[.agg #[.slice ad00 len00 cap00, .slice ad01 xs01.length cap01]] w fun e w' => e = .returned (.bool true) ∧ Below w.heap.size w w' := by
  obtain ⟨gs, hl0, hx0⟩ := gt_of_ints len00 ns00 e00
  rw [← hx0] at hr00
  subst hl0
  clear e00 hx0 ns00
  have HR0 := Lib.hid hr00
  have HR1 := Lib.hid hr01
  clear hr00 hr01
  by_cases hsz : (gs.length : Int) + xs01.length ≤ 1048576
  case neg =>
    have e1 : (if (gs.length : Int) + xs01.length ≤ 1048576 then 1048576 - (gs.length : Int) - xs01.length else -1) = -1 := if_neg hsz
    have E1 := Lib.hid e1
    clear e1
    go_enter Try.func11, Try.ntmps11
    go_wp2_with fail
    refine (szCircuit_any gs.length xs01.length _ _ _ _ _ hm00 hm01 1048576 (by omega) (by omega)).mono ?_
    rintro e w1 ⟨rfl, hb1⟩
    rw [E1.out]
    go_wp2_with fail
    go_ret
    exact ⟨rfl, (by (repeat (first | with_reducible exact Below.refl _ _ | (with_reducible refine bel_next ?_ ?_ (by assumption)) | (with_reducible refine Below.alloc ?_ ?_ _) | (with_reducible refine Below.drew ?_) | (with_reducible refine below_drewN ?_ _) | (with_reducible refine Below.setCell ?_ ?_ _))) <;> (first | omega | (simp; done) | (simp; omega)))⟩
  have e1 : (if (gs.length : Int) + xs01.length ≤ 1048576 then 1048576 - (gs.length : Int) - xs01.length else -1) = 1048576 - gs.length - xs01.length := if_pos hsz
  obtain ⟨ll, hll⟩ : ∃ l : Int, l = 1048576 - (gs.length : Int) - xs01.length := ⟨_, rfl⟩
  have E1 := Lib.hid (e1.trans hll.symm)
  have hl0 : 0 ≤ ll := by omega
  have hl1 : ll ≤ 1048576 := by omega
  clear e1 hll
  have hm0 : gs.length ≤ 1048576 := by omega
  have hm1 : xs01.length ≤ 1048576 := by omega
  have hneg : decide (ll < 0) = false := decide_eq_false (by omega)
  obtain ⟨PG, hPG⟩ : ∃ x, x = opG gs xs01 := ⟨_, rfl⟩
  obtain ⟨PO, hPO⟩ : ∃ x, x = opO gs xs01 := ⟨_, rfl⟩
  have hF0 : PG.length ≤ 1048576 := by rw [hPG]; have := opG_len gs xs01; omega
  have hF1 : PO.length ≤ 1048576 := by rw [hPO]; have := opO_len gs xs01; omega
  have HPG := Lib.hid hPG
  have HPO := Lib.hid hPO
  clear hPG hPO
  go_enter Try.func11, Try.ntmps11
  go_wp2_with fail
  refine (szCircuit_any gs.length xs01.length _ _ _ _ _ hm00 hm01 1048576 (by omega) (by omega)).mono ?_
  rintro e w1 ⟨rfl, hb1⟩
  rw [E1.out]
  have z1 := hb1.size
  (try simp at z1)
  have y1_0 : w.heap.size < w1.heap.size := (by omega)
  have k1_0 := bel_keeps hb1 (b := w.heap.size) (o := 0) (v := .slice ad00 gs.length cap00) (by first | (go_simp; done) | assumption)
  have k1_1 := bel_keeps hb1 (b := w.heap.size) (o := 1) (v := .slice ad01 xs01.length cap01) (by first | (go_simp; done) | assumption)
  go_wp2_with fail
  refine (toCircuit_any gs xs01 _ _ _ _ _ hm0 hm1 (HR0.out.below (by (repeat (first | with_reducible exact Below.refl _ _ | (with_reducible refine bel_next ?_ ?_ (by assumption)) | (with_reducible refine Below.alloc ?_ ?_ _) | (with_reducible refine Below.drew ?_) | (with_reducible refine below_drewN ?_ _) | (with_reducible refine Below.setCell ?_ ?_ _))) <;> (first | omega | (simp; done) | (simp; omega)))) (HR1.out.below (by (repeat (first | with_reducible exact Below.refl _ _ | (with_reducible refine bel_next ?_ ?_ (by assumption)) | (with_reducible refine Below.alloc ?_ ?_ _) | (with_reducible refine Below.drew ?_) | (with_reducible refine below_drewN ?_ _) | (with_reducible refine Below.setCell ?_ ?_ _))) <;> (first | omega | (simp; done) | (simp; omega))))).mono ?_
  rintro e w2 ⟨g12, g22, rfl, o12, o22, lt2, hb2⟩
  have z2 := hb2.size
  (try simp at z2)
  have y2_0 : w.heap.size < w2.heap.size := (by omega)
  have k2_0 := bel_keeps hb2 (b := w.heap.size) (o := 0) (v := .slice ad00 gs.length cap00) (by first | (go_simp; done) | assumption)
  have k2_1 := bel_keeps hb2 (b := w.heap.size) (o := 1) (v := .slice ad01 xs01.length cap01) (by first | (go_simp; done) | assumption)
  clear k1_0 k1_1
  have i12 := o12.ins
  have i22 := o22.ins
  have ne2 : ∀ x y, (some ⟨g12, 0, none⟩ : Option Addr) = some x → (some ⟨g22, 0, none⟩ : Option Addr) = some y → x.block ≠ y.block := by (intro x y hx hy; obtain rfl := Option.some.inj hx; obtain rfl := Option.some.inj hy; simp; omega)
  go_wp2_with fail
  have hcc := sOptimize_any gs xs01 (some ⟨g12, 0, none⟩) (some ⟨g22, 0, none⟩) gs.length xs01.length w2 hm0 hm1 (o12.keep (fun a ha => (by have hh := i12 a ha; exact (by (repeat (first | with_reducible exact Kp.refl _ _ | (with_reducible refine Kp.rng ?_ (by assumption) ?_) | (with_reducible refine Kp.below ?_ (by assumption)) | (with_reducible refine Kp.grown ?_ (by assumption) ?_) | (with_reducible refine Kp.alloc ?_ _) | (with_reducible refine Kp.drew ?_) | (with_reducible refine Kp.drewN ?_ _) | (with_reducible refine Kp.setCell ?_ _ ?_))) <;> (first | omega | (simp; done) | (simp; omega)))))).rd (o22.keep (fun a ha => (by have hh := i22 a ha; exact (by (repeat (first | with_reducible exact Kp.refl _ _ | (with_reducible refine Kp.rng ?_ (by assumption) ?_) | (with_reducible refine Kp.below ?_ (by assumption)) | (with_reducible refine Kp.grown ?_ (by assumption) ?_) | (with_reducible refine Kp.alloc ?_ _) | (with_reducible refine Kp.drew ?_) | (with_reducible refine Kp.drewN ?_ _) | (with_reducible refine Kp.setCell ?_ _ ?_))) <;> (first | omega | (simp; done) | (simp; omega)))))).rd
  rw [← HPG.out, ← HPO.out] at hcc
  refine hcc.mono ?_
  clear hcc
  rintro e w3 ⟨a3, c3, b3, d3, rfl, o3, u3, ne3, hb3⟩
  have z3 := hb3.size
  (try simp at z3)
  have y3_0 : w.heap.size < w3.heap.size := (by omega)
  have k3_0 := bel_keeps hb3 (b := w.heap.size) (o := 0) (v := .slice ad00 gs.length cap00) (by first | (go_simp; done) | assumption)
  have k3_1 := bel_keeps hb3 (b := w.heap.size) (o := 1) (v := .slice ad01 xs01.length cap01) (by first | (go_simp; done) | assumption)
  clear k2_0 k2_1
  have i3 := o3.ins
  have j3 := u3.ins
  go_wp2_with fail
  obtain ⟨w4, hw4⟩ : ∃ W, W = w3.alloc (.cells #[.slice a3 PG.length c3, .slice b3 PO.length d3] 30) := ⟨_, rfl⟩
  rw [← hw4]
  have hb4 : Below w3.heap.size w3 w4 := by rw [hw4]; exact (Below.refl _ _).alloc (Nat.le_refl _) _
  have x4 : w3.heap.size < w4.heap.size := by rw [hw4]; simp
  have z4 := hb4.size
  (try simp at z4)
  have y4_0 : w.heap.size < w4.heap.size := (by omega)
  have k4_0 := bel_keeps hb4 (b := w.heap.size) (o := 0) (v := .slice ad00 gs.length cap00) (by first | (go_simp; done) | assumption)
  have k4_1 := bel_keeps hb4 (b := w.heap.size) (o := 1) (v := .slice ad01 xs01.length cap01) (by first | (go_simp; done) | assumption)
  clear k3_0 k3_1
  have kb4_0 : w4.cell? ⟨w3.heap.size, 0, none⟩ = some (.slice a3 PG.length c3) := by rw [hw4]; go_simp
  have kb4_1 : w4.cell? ⟨w3.heap.size, 1, none⟩ = some (.slice b3 PO.length d3) := by rw [hw4]; go_simp
  clear hw4
  go_wp2_with fail
  refine (toCircuit_any gs xs01 _ _ _ _ _ hm0 hm1 (HR0.out.below (by (repeat (first | with_reducible exact Below.refl _ _ | (with_reducible refine bel_next ?_ ?_ (by assumption)) | (with_reducible refine Below.alloc ?_ ?_ _) | (with_reducible refine Below.drew ?_) | (with_reducible refine below_drewN ?_ _) | (with_reducible refine Below.setCell ?_ ?_ _))) <;> (first | omega | (simp; done) | (simp; omega)))) (HR1.out.below (by (repeat (first | with_reducible exact Below.refl _ _ | (with_reducible refine bel_next ?_ ?_ (by assumption)) | (with_reducible refine Below.alloc ?_ ?_ _) | (with_reducible refine Below.drew ?_) | (with_reducible refine below_drewN ?_ _) | (with_reducible refine Below.setCell ?_ ?_ _))) <;> (first | omega | (simp; done) | (simp; omega))))).mono ?_
  rintro e w5 ⟨g15, g25, rfl, o15, o25, lt5, hb5⟩
  have z5 := hb5.size
  (try simp at z5)
  have y5_0 : w.heap.size < w5.heap.size := (by omega)
  have y5_1 : w3.heap.size < w5.heap.size := (by omega)
  have k5_0 := bel_keeps hb5 (b := w.heap.size) (o := 0) (v := .slice ad00 gs.length cap00) (by first | (go_simp; done) | assumption)
  have k5_1 := bel_keeps hb5 (b := w.heap.size) (o := 1) (v := .slice ad01 xs01.length cap01) (by first | (go_simp; done) | assumption)
  have k5_2 := bel_keeps hb5 (b := w3.heap.size) (o := 0) (v := .slice a3 PG.length c3) (by first | (go_simp; done) | assumption)
  have k5_3 := bel_keeps hb5 (b := w3.heap.size) (o := 1) (v := .slice b3 PO.length d3) (by first | (go_simp; done) | assumption)
  clear k4_0 k4_1 kb4_0 kb4_1
  have i15 := o15.ins
  have i25 := o25.ins
  have ne5 : ∀ x y, (some ⟨g15, 0, none⟩ : Option Addr) = some x → (some ⟨g25, 0, none⟩ : Option Addr) = some y → x.block ≠ y.block := by (intro x y hx hy; obtain rfl := Option.some.inj hx; obtain rfl := Option.some.inj hy; simp; omega)
  go_wp2_with fail
  obtain ⟨w6, hw6⟩ : ∃ W, W = w5.alloc (.cells #[.slice (some ⟨g15, 0, none⟩) gs.length gs.length, .slice (some ⟨g25, 0, none⟩) xs01.length xs01.length] 30) := ⟨_, rfl⟩
  rw [← hw6]
  have hb6 : Below w5.heap.size w5 w6 := by rw [hw6]; exact (Below.refl _ _).alloc (Nat.le_refl _) _
  have x6 : w5.heap.size < w6.heap.size := by rw [hw6]; simp
  have z6 := hb6.size
  (try simp at z6)
  have y6_0 : w.heap.size < w6.heap.size := (by omega)
  have y6_1 : w3.heap.size < w6.heap.size := (by omega)
  have k6_0 := bel_keeps hb6 (b := w.heap.size) (o := 0) (v := .slice ad00 gs.length cap00) (by first | (go_simp; done) | assumption)
  have k6_1 := bel_keeps hb6 (b := w.heap.size) (o := 1) (v := .slice ad01 xs01.length cap01) (by first | (go_simp; done) | assumption)
  have k6_2 := bel_keeps hb6 (b := w3.heap.size) (o := 0) (v := .slice a3 PG.length c3) (by first | (go_simp; done) | assumption)
  have k6_3 := bel_keeps hb6 (b := w3.heap.size) (o := 1) (v := .slice b3 PO.length d3) (by first | (go_simp; done) | assumption)
  clear k5_0 k5_1 k5_2 k5_3
  have kb6_0 : w6.cell? ⟨w5.heap.size, 0, none⟩ = some (.slice (some ⟨g15, 0, none⟩) gs.length gs.length) := by rw [hw6]; go_simp
  have kb6_1 : w6.cell? ⟨w5.heap.size, 1, none⟩ = some (.slice (some ⟨g25, 0, none⟩) xs01.length xs01.length) := by rw [hw6]; go_simp
  clear hw6
  go_wp2_with fail
  have hcc := iOptimize_any gs xs01 (some ⟨g15, 0, none⟩) (some ⟨g25, 0, none⟩) gs.length xs01.length w6 hm0 hm1 (o15.keep (fun a ha => (by have hh := i15 a ha; exact (by (repeat (first | with_reducible exact Kp.refl _ _ | (with_reducible refine Kp.rng ?_ (by assumption) ?_) | (with_reducible refine Kp.below ?_ (by assumption)) | (with_reducible refine Kp.grown ?_ (by assumption) ?_) | (with_reducible refine Kp.alloc ?_ _) | (with_reducible refine Kp.drew ?_) | (with_reducible refine Kp.drewN ?_ _) | (with_reducible refine Kp.setCell ?_ _ ?_))) <;> (first | omega | (simp; done) | (simp; omega)))))).rd (o25.keep (fun a ha => (by have hh := i25 a ha; exact (by (repeat (first | with_reducible exact Kp.refl _ _ | (with_reducible refine Kp.rng ?_ (by assumption) ?_) | (with_reducible refine Kp.below ?_ (by assumption)) | (with_reducible refine Kp.grown ?_ (by assumption) ?_) | (with_reducible refine Kp.alloc ?_ _) | (with_reducible refine Kp.drew ?_) | (with_reducible refine Kp.drewN ?_ _) | (with_reducible refine Kp.setCell ?_ _ ?_))) <;> (first | omega | (simp; done) | (simp; omega)))))).rd
  rw [← HPG.out, ← HPO.out] at hcc
  refine hcc.mono ?_
  clear hcc
  rintro e w7 ⟨a7, c7, b7, d7, rfl, o7, u7, ne7, hb7⟩
  have z7 := hb7.size
  (try simp at z7)
  have y7_0 : w.heap.size < w7.heap.size := (by omega)
  have y7_1 : w3.heap.size < w7.heap.size := (by omega)
  have y7_2 : w5.heap.size < w7.heap.size := (by omega)
  have k7_0 := bel_keeps hb7 (b := w.heap.size) (o := 0) (v := .slice ad00 gs.length cap00) (by first | (go_simp; done) | assumption)
  have k7_1 := bel_keeps hb7 (b := w.heap.size) (o := 1) (v := .slice ad01 xs01.length cap01) (by first | (go_simp; done) | assumption)
  have k7_2 := bel_keeps hb7 (b := w3.heap.size) (o := 0) (v := .slice a3 PG.length c3) (by first | (go_simp; done) | assumption)
  have k7_3 := bel_keeps hb7 (b := w3.heap.size) (o := 1) (v := .slice b3 PO.length d3) (by first | (go_simp; done) | assumption)
  have k7_4 := bel_keeps hb7 (b := w5.heap.size) (o := 0) (v := .slice (some ⟨g15, 0, none⟩) gs.length gs.length) (by first | (go_simp; done) | assumption)
  have k7_5 := bel_keeps hb7 (b := w5.heap.size) (o := 1) (v := .slice (some ⟨g25, 0, none⟩) xs01.length xs01.length) (by first | (go_simp; done) | assumption)
  clear k6_0 k6_1 k6_2 k6_3 kb6_0 kb6_1
  have i7 := o7.ins
  have j7 := u7.ins
  go_wp2_with fail
  obtain ⟨w8, hw8⟩ : ∃ W, W = w7.alloc (.cells #[.slice a7 PG.length c7, .slice b7 PO.length d7] 30) := ⟨_, rfl⟩
  rw [← hw8]
  have hb8 : Below w7.heap.size w7 w8 := by rw [hw8]; exact (Below.refl _ _).alloc (Nat.le_refl _) _
  have x8 : w7.heap.size < w8.heap.size := by rw [hw8]; simp
  have z8 := hb8.size
  (try simp at z8)
  have y8_0 : w.heap.size < w8.heap.size := (by omega)
  have y8_1 : w3.heap.size < w8.heap.size := (by omega)
  have y8_2 : w5.heap.size < w8.heap.size := (by omega)
  have k8_0 := bel_keeps hb8 (b := w.heap.size) (o := 0) (v := .slice ad00 gs.length cap00) (by first | (go_simp; done) | assumption)
  have k8_1 := bel_keeps hb8 (b := w.heap.size) (o := 1) (v := .slice ad01 xs01.length cap01) (by first | (go_simp; done) | assumption)
  have k8_2 := bel_keeps hb8 (b := w3.heap.size) (o := 0) (v := .slice a3 PG.length c3) (by first | (go_simp; done) | assumption)
  have k8_3 := bel_keeps hb8 (b := w3.heap.size) (o := 1) (v := .slice b3 PO.length d3) (by first | (go_simp; done) | assumption)
  have k8_4 := bel_keeps hb8 (b := w5.heap.size) (o := 0) (v := .slice (some ⟨g15, 0, none⟩) gs.length gs.length) (by first | (go_simp; done) | assumption)
  have k8_5 := bel_keeps hb8 (b := w5.heap.size) (o := 1) (v := .slice (some ⟨g25, 0, none⟩) xs01.length xs01.length) (by first | (go_simp; done) | assumption)
  clear k7_0 k7_1 k7_2 k7_3 k7_4 k7_5
  have kb8_0 : w8.cell? ⟨w7.heap.size, 0, none⟩ = some (.slice a7 PG.length c7) := by rw [hw8]; go_simp
  have kb8_1 : w8.cell? ⟨w7.heap.size, 1, none⟩ = some (.slice b7 PO.length d7) := by rw [hw8]; go_simp
  clear hw8
  go_wp2_with fail
  refine (eqCircuit_same PG PO _ _ _ _ _ _ _ _ _ hF0 hF1 (o7.keep (fun a ha => (by have hh := i7 a ha; exact (by (repeat (first | with_reducible exact Kp.refl _ _ | (with_reducible refine Kp.rng ?_ (by assumption) ?_) | (with_reducible refine Kp.below ?_ (by assumption)) | (with_reducible refine Kp.grown ?_ (by assumption) ?_) | (with_reducible refine Kp.alloc ?_ _) | (with_reducible refine Kp.drew ?_) | (with_reducible refine Kp.drewN ?_ _) | (with_reducible refine Kp.setCell ?_ _ ?_))) <;> (first | omega | (simp; done) | (simp; omega)))))).rd (u7.keep (fun a ha => (by have hh := j7 a ha; exact (by (repeat (first | with_reducible exact Kp.refl _ _ | (with_reducible refine Kp.rng ?_ (by assumption) ?_) | (with_reducible refine Kp.below ?_ (by assumption)) | (with_reducible refine Kp.grown ?_ (by assumption) ?_) | (with_reducible refine Kp.alloc ?_ _) | (with_reducible refine Kp.drew ?_) | (with_reducible refine Kp.drewN ?_ _) | (with_reducible refine Kp.setCell ?_ _ ?_))) <;> (first | omega | (simp; done) | (simp; omega)))))).rd (o3.keep (fun a ha => (by have hh := i3 a ha; exact (by (repeat (first | with_reducible exact Kp.refl _ _ | (with_reducible refine Kp.rng ?_ (by assumption) ?_) | (with_reducible refine Kp.below ?_ (by assumption)) | (with_reducible refine Kp.grown ?_ (by assumption) ?_) | (with_reducible refine Kp.alloc ?_ _) | (with_reducible refine Kp.drew ?_) | (with_reducible refine Kp.drewN ?_ _) | (with_reducible refine Kp.setCell ?_ _ ?_))) <;> (first | omega | (simp; done) | (simp; omega)))))).rd (u3.keep (fun a ha => (by have hh := j3 a ha; exact (by (repeat (first | with_reducible exact Kp.refl _ _ | (with_reducible refine Kp.rng ?_ (by assumption) ?_) | (with_reducible refine Kp.below ?_ (by assumption)) | (with_reducible refine Kp.grown ?_ (by assumption) ?_) | (with_reducible refine Kp.alloc ?_ _) | (with_reducible refine Kp.drew ?_) | (with_reducible refine Kp.drewN ?_ _) | (with_reducible refine Kp.setCell ?_ _ ?_))) <;> (first | omega | (simp; done) | (simp; omega)))))).rd).mono ?_
  rintro e w9 ⟨rfl, hb9⟩
  have z9 := hb9.size
  (try simp at z9)
  have y9_0 : w.heap.size < w9.heap.size := (by omega)
  have y9_1 : w3.heap.size < w9.heap.size := (by omega)
  have y9_2 : w5.heap.size < w9.heap.size := (by omega)
  have y9_3 : w7.heap.size < w9.heap.size := (by omega)
  have k9_0 := bel_keeps hb9 (b := w.heap.size) (o := 0) (v := .slice ad00 gs.length cap00) (by first | (go_simp; done) | assumption)
  have k9_1 := bel_keeps hb9 (b := w.heap.size) (o := 1) (v := .slice ad01 xs01.length cap01) (by first | (go_simp; done) | assumption)
  have k9_2 := bel_keeps hb9 (b := w3.heap.size) (o := 0) (v := .slice a3 PG.length c3) (by first | (go_simp; done) | assumption)
  have k9_3 := bel_keeps hb9 (b := w3.heap.size) (o := 1) (v := .slice b3 PO.length d3) (by first | (go_simp; done) | assumption)
  have k9_4 := bel_keeps hb9 (b := w5.heap.size) (o := 0) (v := .slice (some ⟨g15, 0, none⟩) gs.length gs.length) (by first | (go_simp; done) | assumption)
  have k9_5 := bel_keeps hb9 (b := w5.heap.size) (o := 1) (v := .slice (some ⟨g25, 0, none⟩) xs01.length xs01.length) (by first | (go_simp; done) | assumption)
  have k9_6 := bel_keeps hb9 (b := w7.heap.size) (o := 0) (v := .slice a7 PG.length c7) (by first | (go_simp; done) | assumption)
  have k9_7 := bel_keeps hb9 (b := w7.heap.size) (o := 1) (v := .slice b7 PO.length d7) (by first | (go_simp; done) | assumption)
  clear k8_0 k8_1 k8_2 k8_3 k8_4 k8_5 kb8_0 kb8_1
  go_wp2_with fail
  apply wp_share2 (F := fun (W : World) (p110 : Nat) (p210 : Nat) => Below w9.heap.size w9 W ∧ True)
  case h1 =>
    go_region_held3 (fun w' => w'.cell? ⟨w5.heap.size, 0, none⟩ = some (.slice (some ⟨g15, 0, none⟩) gs.length gs.length) ∧ w'.cell? ⟨w5.heap.size, 1, none⟩ = some (.slice (some ⟨g25, 0, none⟩) xs01.length xs01.length) ∧ w'.cell? ⟨w.heap.size, 0, none⟩ = some (.slice ad00 gs.length cap00) ∧ w'.cell? ⟨w.heap.size, 1, none⟩ = some (.slice ad01 xs01.length cap01))
      (first | go_keep)
      (first | (go_at_call 19; refine (toCircuit_any gs xs01 _ _ _ _ _ hm0 hm1 (HR0.out.below (by (repeat (first | with_reducible exact Below.refl _ _ | (with_reducible refine bel_next ?_ ?_ (by assumption)) | (with_reducible refine Below.alloc ?_ ?_ _) | (with_reducible refine Below.drew ?_) | (with_reducible refine below_drewN ?_ _) | (with_reducible refine Below.setCell ?_ ?_ _))) <;> (first | omega | (simp; done) | (simp; omega)))) (HR1.out.below (by (repeat (first | with_reducible exact Below.refl _ _ | (with_reducible refine bel_next ?_ ?_ (by assumption)) | (with_reducible refine Below.alloc ?_ ?_ _) | (with_reducible refine Below.drew ?_) | (with_reducible refine below_drewN ?_ _) | (with_reducible refine Below.setCell ?_ ?_ _))) <;> (first | omega | (simp; done) | (simp; omega))))).mono ?_; rintro e v1 ⟨p110, p210, rfl, hp1, hp2, hp3, hv1⟩; have zv1 := hv1.size; (try simp at zv1); have yv1_0 : w5.heap.size < v1.heap.size := (by omega); have nv1_0 : w5.heap.size ≠ v1.heap.size := (by omega); have mv1_0 : v1.heap.size ≠ w5.heap.size := (by omega); have yv1_1 : w.heap.size < v1.heap.size := (by omega); have nv1_1 : w.heap.size ≠ v1.heap.size := (by omega); have mv1_1 : v1.heap.size ≠ w.heap.size := (by omega); have kv1_0 := bel_keeps hv1 (b := w5.heap.size) (o := 0) (v := .slice (some ⟨g15, 0, none⟩) gs.length gs.length) (by first | (go_simp; done) | assumption); have kv1_1 := bel_keeps hv1 (b := w5.heap.size) (o := 1) (v := .slice (some ⟨g25, 0, none⟩) xs01.length xs01.length) (by first | (go_simp; done) | assumption); have kv1_2 := bel_keeps hv1 (b := w.heap.size) (o := 0) (v := .slice ad00 gs.length cap00) (by first | (go_simp; done) | assumption); have kv1_3 := bel_keeps hv1 (b := w.heap.size) (o := 1) (v := .slice ad01 xs01.length cap01) (by first | (go_simp; done) | assumption)) | (go_at_call 21; refine (eqCircuit_same gs xs01 _ _ _ _ _ _ _ _ _ hm0 hm1 (o15.keep (fun a ha => (by have hh := i15 a ha; exact (by (repeat (first | with_reducible exact Kp.refl _ _ | (with_reducible refine Kp.rng ?_ (by assumption) ?_) | (with_reducible refine Kp.below ?_ (by assumption)) | (with_reducible refine Kp.grown ?_ (by assumption) ?_) | (with_reducible refine Kp.alloc ?_ _) | (with_reducible refine Kp.drew ?_) | (with_reducible refine Kp.drewN ?_ _) | (with_reducible refine Kp.setCell ?_ _ ?_))) <;> (first | omega | (simp; done) | (simp; omega)))))).rd (o25.keep (fun a ha => (by have hh := i25 a ha; exact (by (repeat (first | with_reducible exact Kp.refl _ _ | (with_reducible refine Kp.rng ?_ (by assumption) ?_) | (with_reducible refine Kp.below ?_ (by assumption)) | (with_reducible refine Kp.grown ?_ (by assumption) ?_) | (with_reducible refine Kp.alloc ?_ _) | (with_reducible refine Kp.drew ?_) | (with_reducible refine Kp.drewN ?_ _) | (with_reducible refine Kp.setCell ?_ _ ?_))) <;> (first | omega | (simp; done) | (simp; omega)))))).rd (hp1.rd.below (by (repeat (first | with_reducible exact Below.refl _ _ | (with_reducible refine bel_next ?_ ?_ (by assumption)) | (with_reducible refine Below.alloc ?_ ?_ _) | (with_reducible refine Below.drew ?_) | (with_reducible refine below_drewN ?_ _) | (with_reducible refine Below.setCell ?_ ?_ _))) <;> (first | omega | (simp; done) | (simp; omega)))) (hp2.rd.below (by (repeat (first | with_reducible exact Below.refl _ _ | (with_reducible refine bel_next ?_ ?_ (by assumption)) | (with_reducible refine Below.alloc ?_ ?_ _) | (with_reducible refine Below.drew ?_) | (with_reducible refine below_drewN ?_ _) | (with_reducible refine Below.setCell ?_ ?_ _))) <;> (first | omega | (simp; done) | (simp; omega))))).mono ?_; rintro e v2 ⟨rfl, hv2⟩; have zv2 := hv2.size; (try simp at zv2); have yv2_0 : w5.heap.size < v2.heap.size := (by omega); have nv2_0 : w5.heap.size ≠ v2.heap.size := (by omega); have mv2_0 : v2.heap.size ≠ w5.heap.size := (by omega); have yv2_1 : w.heap.size < v2.heap.size := (by omega); have nv2_1 : w.heap.size ≠ v2.heap.size := (by omega); have mv2_1 : v2.heap.size ≠ w.heap.size := (by omega); have kv2_0 := bel_keeps hv2 (b := w5.heap.size) (o := 0) (v := .slice (some ⟨g15, 0, none⟩) gs.length gs.length) (by first | (go_simp; done) | assumption); have kv2_1 := bel_keeps hv2 (b := w5.heap.size) (o := 1) (v := .slice (some ⟨g25, 0, none⟩) xs01.length xs01.length) (by first | (go_simp; done) | assumption); have kv2_2 := bel_keeps hv2 (b := w.heap.size) (o := 0) (v := .slice ad00 gs.length cap00) (by first | (go_simp; done) | assumption); have kv2_3 := bel_keeps hv2 (b := w.heap.size) (o := 1) (v := .slice ad01 xs01.length cap01) (by first | (go_simp; done) | assumption)))
    ·
      refine ⟨rfl, p110, p210, ⟨(by (repeat (first | with_reducible exact Below.refl _ _ | (with_reducible refine bel_next ?_ ?_ (by assumption)) | (with_reducible refine Below.alloc ?_ ?_ _) | (with_reducible refine Below.drew ?_) | (with_reducible refine below_drewN ?_ _) | (with_reducible refine Below.setCell ?_ ?_ _))) <;> (first | omega | (simp; done) | (simp; omega))), trivial⟩, ?_⟩
      generalize v2 = W
      rfl
  rintro w10 p110 p210 ⟨hb10, r10_0⟩
  have z10 := hb10.size
  (try simp at z10)
  have y10_0 : w.heap.size < w10.heap.size := (by omega)
  have y10_1 : w3.heap.size < w10.heap.size := (by omega)
  have y10_2 : w5.heap.size < w10.heap.size := (by omega)
  have y10_3 : w7.heap.size < w10.heap.size := (by omega)
  have k10_0 := bel_keeps hb10 (b := w.heap.size) (o := 0) (v := .slice ad00 gs.length cap00) (by first | (go_simp; done) | assumption)
  have k10_1 := bel_keeps hb10 (b := w.heap.size) (o := 1) (v := .slice ad01 xs01.length cap01) (by first | (go_simp; done) | assumption)
  have k10_2 := bel_keeps hb10 (b := w3.heap.size) (o := 0) (v := .slice a3 PG.length c3) (by first | (go_simp; done) | assumption)
  have k10_3 := bel_keeps hb10 (b := w3.heap.size) (o := 1) (v := .slice b3 PO.length d3) (by first | (go_simp; done) | assumption)
  have k10_4 := bel_keeps hb10 (b := w5.heap.size) (o := 0) (v := .slice (some ⟨g15, 0, none⟩) gs.length gs.length) (by first | (go_simp; done) | assumption)
  have k10_5 := bel_keeps hb10 (b := w5.heap.size) (o := 1) (v := .slice (some ⟨g25, 0, none⟩) xs01.length xs01.length) (by first | (go_simp; done) | assumption)
  have k10_6 := bel_keeps hb10 (b := w7.heap.size) (o := 0) (v := .slice a7 PG.length c7) (by first | (go_simp; done) | assumption)
  have k10_7 := bel_keeps hb10 (b := w7.heap.size) (o := 1) (v := .slice b7 PO.length d7) (by first | (go_simp; done) | assumption)
  clear k9_0 k9_1 k9_2 k9_3 k9_4 k9_5 k9_6 k9_7
  go_wp2_with fail
  refine (markCircuit_any (gs.length) (xs01.length) _ _ _ _ w4.heap.size w5.heap.size 1 (some ⟨g15, 0, none⟩) (some ⟨g25, 0, none⟩) _ _ _ (by omega) (by omega) hm0 hm1 (o15.keep (fun a ha => (by have hh := i15 a ha; exact (by (repeat (first | with_reducible exact Kp.refl _ _ | (with_reducible refine Kp.rng ?_ (by assumption) ?_) | (with_reducible refine Kp.below ?_ (by assumption)) | (with_reducible refine Kp.grown ?_ (by assumption) ?_) | (with_reducible refine Kp.alloc ?_ _) | (with_reducible refine Kp.drew ?_) | (with_reducible refine Kp.drewN ?_ _) | (with_reducible refine Kp.setCell ?_ _ ?_))) <;> (first | omega | (simp; done) | (simp; omega)))))) (o25.keep (fun a ha => (by have hh := i25 a ha; exact (by (repeat (first | with_reducible exact Kp.refl _ _ | (with_reducible refine Kp.rng ?_ (by assumption) ?_) | (with_reducible refine Kp.below ?_ (by assumption)) | (with_reducible refine Kp.grown ?_ (by assumption) ?_) | (with_reducible refine Kp.alloc ?_ _) | (with_reducible refine Kp.drew ?_) | (with_reducible refine Kp.drewN ?_ _) | (with_reducible refine Kp.setCell ?_ _ ?_))) <;> (first | omega | (simp; done) | (simp; omega)))))) i15 i25 ne5 (by omega) (by first | omega | (simp; done) | (simp; omega))).mono ?_
  rintro e w11 ⟨rfl, o111, o211, hb11, hr11⟩
  have z11 := hb11.size
  (try simp at z11)
  have y11_0 : w.heap.size < w11.heap.size := (by omega)
  have y11_1 : w3.heap.size < w11.heap.size := (by omega)
  have y11_2 : w5.heap.size < w11.heap.size := (by omega)
  have y11_3 : w7.heap.size < w11.heap.size := (by omega)
  have k11_0 : w11.cell? ⟨w.heap.size, 0, none⟩ = some (.slice ad00 gs.length cap00) := hr11.keeps (by omega) (by first | (go_simp; done) | assumption)
  have k11_1 : w11.cell? ⟨w.heap.size, 1, none⟩ = some (.slice ad01 xs01.length cap01) := hr11.keeps (by omega) (by first | (go_simp; done) | assumption)
  have k11_2 : w11.cell? ⟨w3.heap.size, 0, none⟩ = some (.slice a3 PG.length c3) := hr11.keeps (by omega) (by first | (go_simp; done) | assumption)
  have k11_3 : w11.cell? ⟨w3.heap.size, 1, none⟩ = some (.slice b3 PO.length d3) := hr11.keeps (by omega) (by first | (go_simp; done) | assumption)
  have k11_4 : w11.cell? ⟨w5.heap.size, 0, none⟩ = some (.slice (some ⟨g15, 0, none⟩) gs.length gs.length) := hr11.keeps (by omega) (by first | (go_simp; done) | assumption)
  have k11_5 : w11.cell? ⟨w5.heap.size, 1, none⟩ = some (.slice (some ⟨g25, 0, none⟩) xs01.length xs01.length) := hr11.keeps (by omega) (by first | (go_simp; done) | assumption)
  have k11_6 : w11.cell? ⟨w7.heap.size, 0, none⟩ = some (.slice a7 PG.length c7) := hr11.keeps (by omega) (by first | (go_simp; done) | assumption)
  have k11_7 : w11.cell? ⟨w7.heap.size, 1, none⟩ = some (.slice b7 PO.length d7) := hr11.keeps (by omega) (by first | (go_simp; done) | assumption)
  clear k10_0 k10_1 k10_2 k10_3 k10_4 k10_5 k10_6 k10_7
  go_wp2_with fail
  refine (eqCircuit_same PG PO _ _ _ _ _ _ _ _ _ hF0 hF1 (o7.keep (fun a ha => (by have hh := i7 a ha; exact (by (repeat (first | with_reducible exact Kp.refl _ _ | (with_reducible refine Kp.rng ?_ (by assumption) ?_) | (with_reducible refine Kp.below ?_ (by assumption)) | (with_reducible refine Kp.grown ?_ (by assumption) ?_) | (with_reducible refine Kp.alloc ?_ _) | (with_reducible refine Kp.drew ?_) | (with_reducible refine Kp.drewN ?_ _) | (with_reducible refine Kp.setCell ?_ _ ?_))) <;> (first | omega | (simp; done) | (simp; omega)))))).rd (u7.keep (fun a ha => (by have hh := j7 a ha; exact (by (repeat (first | with_reducible exact Kp.refl _ _ | (with_reducible refine Kp.rng ?_ (by assumption) ?_) | (with_reducible refine Kp.below ?_ (by assumption)) | (with_reducible refine Kp.grown ?_ (by assumption) ?_) | (with_reducible refine Kp.alloc ?_ _) | (with_reducible refine Kp.drew ?_) | (with_reducible refine Kp.drewN ?_ _) | (with_reducible refine Kp.setCell ?_ _ ?_))) <;> (first | omega | (simp; done) | (simp; omega)))))).rd (o3.keep (fun a ha => (by have hh := i3 a ha; exact (by (repeat (first | with_reducible exact Kp.refl _ _ | (with_reducible refine Kp.rng ?_ (by assumption) ?_) | (with_reducible refine Kp.below ?_ (by assumption)) | (with_reducible refine Kp.grown ?_ (by assumption) ?_) | (with_reducible refine Kp.alloc ?_ _) | (with_reducible refine Kp.drew ?_) | (with_reducible refine Kp.drewN ?_ _) | (with_reducible refine Kp.setCell ?_ _ ?_))) <;> (first | omega | (simp; done) | (simp; omega)))))).rd (u3.keep (fun a ha => (by have hh := j3 a ha; exact (by (repeat (first | with_reducible exact Kp.refl _ _ | (with_reducible refine Kp.rng ?_ (by assumption) ?_) | (with_reducible refine Kp.below ?_ (by assumption)) | (with_reducible refine Kp.grown ?_ (by assumption) ?_) | (with_reducible refine Kp.alloc ?_ _) | (with_reducible refine Kp.drew ?_) | (with_reducible refine Kp.drewN ?_ _) | (with_reducible refine Kp.setCell ?_ _ ?_))) <;> (first | omega | (simp; done) | (simp; omega)))))).rd).mono ?_
  rintro e w12 ⟨rfl, hb12⟩
  have z12 := hb12.size
  (try simp at z12)
  have y12_0 : w.heap.size < w12.heap.size := (by omega)
  have y12_1 : w3.heap.size < w12.heap.size := (by omega)
  have y12_2 : w5.heap.size < w12.heap.size := (by omega)
  have y12_3 : w7.heap.size < w12.heap.size := (by omega)
  have k12_0 := bel_keeps hb12 (b := w.heap.size) (o := 0) (v := .slice ad00 gs.length cap00) (by first | (go_simp; done) | assumption)
  have k12_1 := bel_keeps hb12 (b := w.heap.size) (o := 1) (v := .slice ad01 xs01.length cap01) (by first | (go_simp; done) | assumption)
  have k12_2 := bel_keeps hb12 (b := w3.heap.size) (o := 0) (v := .slice a3 PG.length c3) (by first | (go_simp; done) | assumption)
  have k12_3 := bel_keeps hb12 (b := w3.heap.size) (o := 1) (v := .slice b3 PO.length d3) (by first | (go_simp; done) | assumption)
  have k12_4 := bel_keeps hb12 (b := w5.heap.size) (o := 0) (v := .slice (some ⟨g15, 0, none⟩) gs.length gs.length) (by first | (go_simp; done) | assumption)
  have k12_5 := bel_keeps hb12 (b := w5.heap.size) (o := 1) (v := .slice (some ⟨g25, 0, none⟩) xs01.length xs01.length) (by first | (go_simp; done) | assumption)
  have k12_6 := bel_keeps hb12 (b := w7.heap.size) (o := 0) (v := .slice a7 PG.length c7) (by first | (go_simp; done) | assumption)
  have k12_7 := bel_keeps hb12 (b := w7.heap.size) (o := 1) (v := .slice b7 PO.length d7) (by first | (go_simp; done) | assumption)
  clear k11_0 k11_1 k11_2 k11_3 k11_4 k11_5 k11_6 k11_7
  go_wp2_with fail
  refine (markCircuit_any (PG.length) (PO.length) _ _ _ _ w6.heap.size w7.heap.size 1 a7 b7 _ _ _ (by omega) (by omega) hF0 hF1 (o7.keep (fun a ha => (by have hh := i7 a ha; exact (by (repeat (first | with_reducible exact Kp.refl _ _ | (with_reducible refine Kp.rng ?_ (by assumption) ?_) | (with_reducible refine Kp.below ?_ (by assumption)) | (with_reducible refine Kp.grown ?_ (by assumption) ?_) | (with_reducible refine Kp.alloc ?_ _) | (with_reducible refine Kp.drew ?_) | (with_reducible refine Kp.drewN ?_ _) | (with_reducible refine Kp.setCell ?_ _ ?_))) <;> (first | omega | (simp; done) | (simp; omega)))))) (u7.keep (fun a ha => (by have hh := j7 a ha; exact (by (repeat (first | with_reducible exact Kp.refl _ _ | (with_reducible refine Kp.rng ?_ (by assumption) ?_) | (with_reducible refine Kp.below ?_ (by assumption)) | (with_reducible refine Kp.grown ?_ (by assumption) ?_) | (with_reducible refine Kp.alloc ?_ _) | (with_reducible refine Kp.drew ?_) | (with_reducible refine Kp.drewN ?_ _) | (with_reducible refine Kp.setCell ?_ _ ?_))) <;> (first | omega | (simp; done) | (simp; omega)))))) i7 j7 ne7 (by omega) (by first | omega | (simp; done) | (simp; omega))).mono ?_
  rintro e w13 ⟨rfl, o113, o213, hb13, hr13⟩
  have z13 := hb13.size
  (try simp at z13)
  have y13_0 : w.heap.size < w13.heap.size := (by omega)
  have y13_1 : w3.heap.size < w13.heap.size := (by omega)
  have y13_2 : w5.heap.size < w13.heap.size := (by omega)
  have y13_3 : w7.heap.size < w13.heap.size := (by omega)
  have k13_0 : w13.cell? ⟨w.heap.size, 0, none⟩ = some (.slice ad00 gs.length cap00) := hr13.keeps (by omega) (by first | (go_simp; done) | assumption)
  have k13_1 : w13.cell? ⟨w.heap.size, 1, none⟩ = some (.slice ad01 xs01.length cap01) := hr13.keeps (by omega) (by first | (go_simp; done) | assumption)
  have k13_2 : w13.cell? ⟨w3.heap.size, 0, none⟩ = some (.slice a3 PG.length c3) := hr13.keeps (by omega) (by first | (go_simp; done) | assumption)
  have k13_3 : w13.cell? ⟨w3.heap.size, 1, none⟩ = some (.slice b3 PO.length d3) := hr13.keeps (by omega) (by first | (go_simp; done) | assumption)
  have k13_4 : w13.cell? ⟨w5.heap.size, 0, none⟩ = some (.slice (some ⟨g15, 0, none⟩) gs.length gs.length) := hr13.keeps (by omega) (by first | (go_simp; done) | assumption)
  have k13_5 : w13.cell? ⟨w5.heap.size, 1, none⟩ = some (.slice (some ⟨g25, 0, none⟩) xs01.length xs01.length) := hr13.keeps (by omega) (by first | (go_simp; done) | assumption)
  have k13_6 : w13.cell? ⟨w7.heap.size, 0, none⟩ = some (.slice a7 PG.length c7) := hr13.keeps (by omega) (by first | (go_simp; done) | assumption)
  have k13_7 : w13.cell? ⟨w7.heap.size, 1, none⟩ = some (.slice b7 PO.length d7) := hr13.keeps (by omega) (by first | (go_simp; done) | assumption)
  clear k12_0 k12_1 k12_2 k12_3 k12_4 k12_5 k12_6 k12_7
  go_wp2_with fail
  refine (heldCircuit_any (PG.length) (PO.length) 1 _ _ _ _ _ (by omega) (by omega) hF0 hF1 (o113.keep (fun a ha => (by have hh := i7 a ha; exact (by (repeat (first | with_reducible exact Kp.refl _ _ | (with_reducible refine Kp.rng ?_ (by assumption) ?_) | (with_reducible refine Kp.below ?_ (by assumption)) | (with_reducible refine Kp.grown ?_ (by assumption) ?_) | (with_reducible refine Kp.alloc ?_ _) | (with_reducible refine Kp.drew ?_) | (with_reducible refine Kp.drewN ?_ _) | (with_reducible refine Kp.setCell ?_ _ ?_))) <;> (first | omega | (simp; done) | (simp; omega)))))).rd (o213.keep (fun a ha => (by have hh := j7 a ha; exact (by (repeat (first | with_reducible exact Kp.refl _ _ | (with_reducible refine Kp.rng ?_ (by assumption) ?_) | (with_reducible refine Kp.below ?_ (by assumption)) | (with_reducible refine Kp.grown ?_ (by assumption) ?_) | (with_reducible refine Kp.alloc ?_ _) | (with_reducible refine Kp.drew ?_) | (with_reducible refine Kp.drewN ?_ _) | (with_reducible refine Kp.setCell ?_ _ ?_))) <;> (first | omega | (simp; done) | (simp; omega)))))).rd).mono ?_
  rintro e w14 ⟨rfl, hb14⟩
  have z14 := hb14.size
  (try simp at z14)
  have y14_0 : w.heap.size < w14.heap.size := (by omega)
  have y14_1 : w3.heap.size < w14.heap.size := (by omega)
  have y14_2 : w5.heap.size < w14.heap.size := (by omega)
  have y14_3 : w7.heap.size < w14.heap.size := (by omega)
  have k14_0 := bel_keeps hb14 (b := w.heap.size) (o := 0) (v := .slice ad00 gs.length cap00) (by first | (go_simp; done) | assumption)
  have k14_1 := bel_keeps hb14 (b := w.heap.size) (o := 1) (v := .slice ad01 xs01.length cap01) (by first | (go_simp; done) | assumption)
  have k14_2 := bel_keeps hb14 (b := w3.heap.size) (o := 0) (v := .slice a3 PG.length c3) (by first | (go_simp; done) | assumption)
  have k14_3 := bel_keeps hb14 (b := w3.heap.size) (o := 1) (v := .slice b3 PO.length d3) (by first | (go_simp; done) | assumption)
  have k14_4 := bel_keeps hb14 (b := w5.heap.size) (o := 0) (v := .slice (some ⟨g15, 0, none⟩) gs.length gs.length) (by first | (go_simp; done) | assumption)
  have k14_5 := bel_keeps hb14 (b := w5.heap.size) (o := 1) (v := .slice (some ⟨g25, 0, none⟩) xs01.length xs01.length) (by first | (go_simp; done) | assumption)
  have k14_6 := bel_keeps hb14 (b := w7.heap.size) (o := 0) (v := .slice a7 PG.length c7) (by first | (go_simp; done) | assumption)
  have k14_7 := bel_keeps hb14 (b := w7.heap.size) (o := 1) (v := .slice b7 PO.length d7) (by first | (go_simp; done) | assumption)
  clear k13_0 k13_1 k13_2 k13_3 k13_4 k13_5 k13_6 k13_7
  go_wp2_with fail
  refine (toCircuit_any gs xs01 _ _ _ _ _ hm0 hm1 (HR0.out.below (by (repeat (first | with_reducible exact Below.refl _ _ | (with_reducible refine bel_next ?_ ?_ (by assumption)) | (with_reducible refine Below.alloc ?_ ?_ _) | (with_reducible refine Below.drew ?_) | (with_reducible refine below_drewN ?_ _) | (with_reducible refine Below.setCell ?_ ?_ _))) <;> (first | omega | (simp; done) | (simp; omega)))) (HR1.out.below (by (repeat (first | with_reducible exact Below.refl _ _ | (with_reducible refine bel_next ?_ ?_ (by assumption)) | (with_reducible refine Below.alloc ?_ ?_ _) | (with_reducible refine Below.drew ?_) | (with_reducible refine below_drewN ?_ _) | (with_reducible refine Below.setCell ?_ ?_ _))) <;> (first | omega | (simp; done) | (simp; omega))))).mono ?_
  rintro e w15 ⟨g115, g215, rfl, o115, o215, lt15, hb15⟩
  have z15 := hb15.size
  (try simp at z15)
  have y15_0 : w.heap.size < w15.heap.size := (by omega)
  have y15_1 : w3.heap.size < w15.heap.size := (by omega)
  have y15_2 : w5.heap.size < w15.heap.size := (by omega)
  have y15_3 : w7.heap.size < w15.heap.size := (by omega)
  have k15_0 := bel_keeps hb15 (b := w.heap.size) (o := 0) (v := .slice ad00 gs.length cap00) (by first | (go_simp; done) | assumption)
  have k15_1 := bel_keeps hb15 (b := w.heap.size) (o := 1) (v := .slice ad01 xs01.length cap01) (by first | (go_simp; done) | assumption)
  have k15_2 := bel_keeps hb15 (b := w3.heap.size) (o := 0) (v := .slice a3 PG.length c3) (by first | (go_simp; done) | assumption)
  have k15_3 := bel_keeps hb15 (b := w3.heap.size) (o := 1) (v := .slice b3 PO.length d3) (by first | (go_simp; done) | assumption)
  have k15_4 := bel_keeps hb15 (b := w5.heap.size) (o := 0) (v := .slice (some ⟨g15, 0, none⟩) gs.length gs.length) (by first | (go_simp; done) | assumption)
  have k15_5 := bel_keeps hb15 (b := w5.heap.size) (o := 1) (v := .slice (some ⟨g25, 0, none⟩) xs01.length xs01.length) (by first | (go_simp; done) | assumption)
  have k15_6 := bel_keeps hb15 (b := w7.heap.size) (o := 0) (v := .slice a7 PG.length c7) (by first | (go_simp; done) | assumption)
  have k15_7 := bel_keeps hb15 (b := w7.heap.size) (o := 1) (v := .slice b7 PO.length d7) (by first | (go_simp; done) | assumption)
  clear k14_0 k14_1 k14_2 k14_3 k14_4 k14_5 k14_6 k14_7
  have i115 := o115.ins
  have i215 := o215.ins
  have ne15 : ∀ x y, (some ⟨g115, 0, none⟩ : Option Addr) = some x → (some ⟨g215, 0, none⟩ : Option Addr) = some y → x.block ≠ y.block := by (intro x y hx hy; obtain rfl := Option.some.inj hx; obtain rfl := Option.some.inj hy; simp; omega)
  go_wp2_with fail
  have hcc := iOptimize_any gs xs01 (some ⟨g115, 0, none⟩) (some ⟨g215, 0, none⟩) gs.length xs01.length w15 hm0 hm1 (o115.keep (fun a ha => (by have hh := i115 a ha; exact (by (repeat (first | with_reducible exact Kp.refl _ _ | (with_reducible refine Kp.rng ?_ (by assumption) ?_) | (with_reducible refine Kp.below ?_ (by assumption)) | (with_reducible refine Kp.grown ?_ (by assumption) ?_) | (with_reducible refine Kp.alloc ?_ _) | (with_reducible refine Kp.drew ?_) | (with_reducible refine Kp.drewN ?_ _) | (with_reducible refine Kp.setCell ?_ _ ?_))) <;> (first | omega | (simp; done) | (simp; omega)))))).rd (o215.keep (fun a ha => (by have hh := i215 a ha; exact (by (repeat (first | with_reducible exact Kp.refl _ _ | (with_reducible refine Kp.rng ?_ (by assumption) ?_) | (with_reducible refine Kp.below ?_ (by assumption)) | (with_reducible refine Kp.grown ?_ (by assumption) ?_) | (with_reducible refine Kp.alloc ?_ _) | (with_reducible refine Kp.drew ?_) | (with_reducible refine Kp.drewN ?_ _) | (with_reducible refine Kp.setCell ?_ _ ?_))) <;> (first | omega | (simp; done) | (simp; omega)))))).rd
  rw [← HPG.out, ← HPO.out] at hcc
  refine hcc.mono ?_
  clear hcc
  rintro e w16 ⟨a16, c16, b16, d16, rfl, o16, u16, ne16, hb16⟩
  have z16 := hb16.size
  (try simp at z16)
  have y16_0 : w.heap.size < w16.heap.size := (by omega)
  have y16_1 : w3.heap.size < w16.heap.size := (by omega)
  have y16_2 : w5.heap.size < w16.heap.size := (by omega)
  have y16_3 : w7.heap.size < w16.heap.size := (by omega)
  have k16_0 := bel_keeps hb16 (b := w.heap.size) (o := 0) (v := .slice ad00 gs.length cap00) (by first | (go_simp; done) | assumption)
  have k16_1 := bel_keeps hb16 (b := w.heap.size) (o := 1) (v := .slice ad01 xs01.length cap01) (by first | (go_simp; done) | assumption)
  have k16_2 := bel_keeps hb16 (b := w3.heap.size) (o := 0) (v := .slice a3 PG.length c3) (by first | (go_simp; done) | assumption)
  have k16_3 := bel_keeps hb16 (b := w3.heap.size) (o := 1) (v := .slice b3 PO.length d3) (by first | (go_simp; done) | assumption)
  have k16_4 := bel_keeps hb16 (b := w5.heap.size) (o := 0) (v := .slice (some ⟨g15, 0, none⟩) gs.length gs.length) (by first | (go_simp; done) | assumption)
  have k16_5 := bel_keeps hb16 (b := w5.heap.size) (o := 1) (v := .slice (some ⟨g25, 0, none⟩) xs01.length xs01.length) (by first | (go_simp; done) | assumption)
  have k16_6 := bel_keeps hb16 (b := w7.heap.size) (o := 0) (v := .slice a7 PG.length c7) (by first | (go_simp; done) | assumption)
  have k16_7 := bel_keeps hb16 (b := w7.heap.size) (o := 1) (v := .slice b7 PO.length d7) (by first | (go_simp; done) | assumption)
  clear k15_0 k15_1 k15_2 k15_3 k15_4 k15_5 k15_6 k15_7
  have i16 := o16.ins
  have j16 := u16.ins
  go_wp2_with fail
  obtain ⟨w17, hw17⟩ : ∃ W, W = w16.alloc (.cells #[.slice a16 PG.length c16, .slice b16 PO.length d16] 30) := ⟨_, rfl⟩
  rw [← hw17]
  have hb17 : Below w16.heap.size w16 w17 := by rw [hw17]; exact (Below.refl _ _).alloc (Nat.le_refl _) _
  have x17 : w16.heap.size < w17.heap.size := by rw [hw17]; simp
  have z17 := hb17.size
  (try simp at z17)
  have y17_0 : w.heap.size < w17.heap.size := (by omega)
  have y17_1 : w3.heap.size < w17.heap.size := (by omega)
  have y17_2 : w5.heap.size < w17.heap.size := (by omega)
  have y17_3 : w7.heap.size < w17.heap.size := (by omega)
  have k17_0 := bel_keeps hb17 (b := w.heap.size) (o := 0) (v := .slice ad00 gs.length cap00) (by first | (go_simp; done) | assumption)
  have k17_1 := bel_keeps hb17 (b := w.heap.size) (o := 1) (v := .slice ad01 xs01.length cap01) (by first | (go_simp; done) | assumption)
  have k17_2 := bel_keeps hb17 (b := w3.heap.size) (o := 0) (v := .slice a3 PG.length c3) (by first | (go_simp; done) | assumption)
  have k17_3 := bel_keeps hb17 (b := w3.heap.size) (o := 1) (v := .slice b3 PO.length d3) (by first | (go_simp; done) | assumption)
  have k17_4 := bel_keeps hb17 (b := w5.heap.size) (o := 0) (v := .slice (some ⟨g15, 0, none⟩) gs.length gs.length) (by first | (go_simp; done) | assumption)
  have k17_5 := bel_keeps hb17 (b := w5.heap.size) (o := 1) (v := .slice (some ⟨g25, 0, none⟩) xs01.length xs01.length) (by first | (go_simp; done) | assumption)
  have k17_6 := bel_keeps hb17 (b := w7.heap.size) (o := 0) (v := .slice a7 PG.length c7) (by first | (go_simp; done) | assumption)
  have k17_7 := bel_keeps hb17 (b := w7.heap.size) (o := 1) (v := .slice b7 PO.length d7) (by first | (go_simp; done) | assumption)
  clear k16_0 k16_1 k16_2 k16_3 k16_4 k16_5 k16_6 k16_7
  have kb17_0 : w17.cell? ⟨w16.heap.size, 0, none⟩ = some (.slice a16 PG.length c16) := by rw [hw17]; go_simp
  have kb17_1 : w17.cell? ⟨w16.heap.size, 1, none⟩ = some (.slice b16 PO.length d16) := by rw [hw17]; go_simp
  clear hw17
  go_wp2_with fail
  refine (eqCircuit_same PG PO _ _ _ _ _ _ _ _ _ hF0 hF1 (o16.keep (fun a ha => (by have hh := i16 a ha; exact (by (repeat (first | with_reducible exact Kp.refl _ _ | (with_reducible refine Kp.rng ?_ (by assumption) ?_) | (with_reducible refine Kp.below ?_ (by assumption)) | (with_reducible refine Kp.grown ?_ (by assumption) ?_) | (with_reducible refine Kp.alloc ?_ _) | (with_reducible refine Kp.drew ?_) | (with_reducible refine Kp.drewN ?_ _) | (with_reducible refine Kp.setCell ?_ _ ?_))) <;> (first | omega | (simp; done) | (simp; omega)))))).rd (u16.keep (fun a ha => (by have hh := j16 a ha; exact (by (repeat (first | with_reducible exact Kp.refl _ _ | (with_reducible refine Kp.rng ?_ (by assumption) ?_) | (with_reducible refine Kp.below ?_ (by assumption)) | (with_reducible refine Kp.grown ?_ (by assumption) ?_) | (with_reducible refine Kp.alloc ?_ _) | (with_reducible refine Kp.drew ?_) | (with_reducible refine Kp.drewN ?_ _) | (with_reducible refine Kp.setCell ?_ _ ?_))) <;> (first | omega | (simp; done) | (simp; omega)))))).rd (o3.keep (fun a ha => (by have hh := i3 a ha; exact (by (repeat (first | with_reducible exact Kp.refl _ _ | (with_reducible refine Kp.rng ?_ (by assumption) ?_) | (with_reducible refine Kp.below ?_ (by assumption)) | (with_reducible refine Kp.grown ?_ (by assumption) ?_) | (with_reducible refine Kp.alloc ?_ _) | (with_reducible refine Kp.drew ?_) | (with_reducible refine Kp.drewN ?_ _) | (with_reducible refine Kp.setCell ?_ _ ?_))) <;> (first | omega | (simp; done) | (simp; omega)))))).rd (u3.keep (fun a ha => (by have hh := j3 a ha; exact (by (repeat (first | with_reducible exact Kp.refl _ _ | (with_reducible refine Kp.rng ?_ (by assumption) ?_) | (with_reducible refine Kp.below ?_ (by assumption)) | (with_reducible refine Kp.grown ?_ (by assumption) ?_) | (with_reducible refine Kp.alloc ?_ _) | (with_reducible refine Kp.drew ?_) | (with_reducible refine Kp.drewN ?_ _) | (with_reducible refine Kp.setCell ?_ _ ?_))) <;> (first | omega | (simp; done) | (simp; omega)))))).rd).mono ?_
  rintro e w18 ⟨rfl, hb18⟩
  have z18 := hb18.size
  (try simp at z18)
  have y18_0 : w.heap.size < w18.heap.size := (by omega)
  have y18_1 : w3.heap.size < w18.heap.size := (by omega)
  have y18_2 : w5.heap.size < w18.heap.size := (by omega)
  have y18_3 : w7.heap.size < w18.heap.size := (by omega)
  have y18_4 : w16.heap.size < w18.heap.size := (by omega)
  have k18_0 := bel_keeps hb18 (b := w.heap.size) (o := 0) (v := .slice ad00 gs.length cap00) (by first | (go_simp; done) | assumption)
  have k18_1 := bel_keeps hb18 (b := w.heap.size) (o := 1) (v := .slice ad01 xs01.length cap01) (by first | (go_simp; done) | assumption)
  have k18_2 := bel_keeps hb18 (b := w3.heap.size) (o := 0) (v := .slice a3 PG.length c3) (by first | (go_simp; done) | assumption)
  have k18_3 := bel_keeps hb18 (b := w3.heap.size) (o := 1) (v := .slice b3 PO.length d3) (by first | (go_simp; done) | assumption)
  have k18_4 := bel_keeps hb18 (b := w5.heap.size) (o := 0) (v := .slice (some ⟨g15, 0, none⟩) gs.length gs.length) (by first | (go_simp; done) | assumption)
  have k18_5 := bel_keeps hb18 (b := w5.heap.size) (o := 1) (v := .slice (some ⟨g25, 0, none⟩) xs01.length xs01.length) (by first | (go_simp; done) | assumption)
  have k18_6 := bel_keeps hb18 (b := w7.heap.size) (o := 0) (v := .slice a7 PG.length c7) (by first | (go_simp; done) | assumption)
  have k18_7 := bel_keeps hb18 (b := w7.heap.size) (o := 1) (v := .slice b7 PO.length d7) (by first | (go_simp; done) | assumption)
  have k18_8 := bel_keeps hb18 (b := w16.heap.size) (o := 0) (v := .slice a16 PG.length c16) (by first | (go_simp; done) | assumption)
  have k18_9 := bel_keeps hb18 (b := w16.heap.size) (o := 1) (v := .slice b16 PO.length d16) (by first | (go_simp; done) | assumption)
  clear k17_0 k17_1 k17_2 k17_3 k17_4 k17_5 k17_6 k17_7 kb17_0 kb17_1
  go_wp2_with fail
  refine (heldCircuit_any (PG.length) (PO.length) 1 _ _ _ _ _ (by omega) (by omega) hF0 hF1 (o113.keep (fun a ha => (by have hh := i7 a ha; exact (by (repeat (first | with_reducible exact Kp.refl _ _ | (with_reducible refine Kp.rng ?_ (by assumption) ?_) | (with_reducible refine Kp.below ?_ (by assumption)) | (with_reducible refine Kp.grown ?_ (by assumption) ?_) | (with_reducible refine Kp.alloc ?_ _) | (with_reducible refine Kp.drew ?_) | (with_reducible refine Kp.drewN ?_ _) | (with_reducible refine Kp.setCell ?_ _ ?_))) <;> (first | omega | (simp; done) | (simp; omega)))))).rd (o213.keep (fun a ha => (by have hh := j7 a ha; exact (by (repeat (first | with_reducible exact Kp.refl _ _ | (with_reducible refine Kp.rng ?_ (by assumption) ?_) | (with_reducible refine Kp.below ?_ (by assumption)) | (with_reducible refine Kp.grown ?_ (by assumption) ?_) | (with_reducible refine Kp.alloc ?_ _) | (with_reducible refine Kp.drew ?_) | (with_reducible refine Kp.drewN ?_ _) | (with_reducible refine Kp.setCell ?_ _ ?_))) <;> (first | omega | (simp; done) | (simp; omega)))))).rd).mono ?_
  rintro e w19 ⟨rfl, hb19⟩
  have z19 := hb19.size
  (try simp at z19)
  have y19_0 : w.heap.size < w19.heap.size := (by omega)
  have y19_1 : w3.heap.size < w19.heap.size := (by omega)
  have y19_2 : w5.heap.size < w19.heap.size := (by omega)
  have y19_3 : w7.heap.size < w19.heap.size := (by omega)
  have y19_4 : w16.heap.size < w19.heap.size := (by omega)
  have k19_0 := bel_keeps hb19 (b := w.heap.size) (o := 0) (v := .slice ad00 gs.length cap00) (by first | (go_simp; done) | assumption)
  have k19_1 := bel_keeps hb19 (b := w.heap.size) (o := 1) (v := .slice ad01 xs01.length cap01) (by first | (go_simp; done) | assumption)
  have k19_2 := bel_keeps hb19 (b := w3.heap.size) (o := 0) (v := .slice a3 PG.length c3) (by first | (go_simp; done) | assumption)
  have k19_3 := bel_keeps hb19 (b := w3.heap.size) (o := 1) (v := .slice b3 PO.length d3) (by first | (go_simp; done) | assumption)
  have k19_4 := bel_keeps hb19 (b := w5.heap.size) (o := 0) (v := .slice (some ⟨g15, 0, none⟩) gs.length gs.length) (by first | (go_simp; done) | assumption)
  have k19_5 := bel_keeps hb19 (b := w5.heap.size) (o := 1) (v := .slice (some ⟨g25, 0, none⟩) xs01.length xs01.length) (by first | (go_simp; done) | assumption)
  have k19_6 := bel_keeps hb19 (b := w7.heap.size) (o := 0) (v := .slice a7 PG.length c7) (by first | (go_simp; done) | assumption)
  have k19_7 := bel_keeps hb19 (b := w7.heap.size) (o := 1) (v := .slice b7 PO.length d7) (by first | (go_simp; done) | assumption)
  have k19_8 := bel_keeps hb19 (b := w16.heap.size) (o := 0) (v := .slice a16 PG.length c16) (by first | (go_simp; done) | assumption)
  have k19_9 := bel_keeps hb19 (b := w16.heap.size) (o := 1) (v := .slice b16 PO.length d16) (by first | (go_simp; done) | assumption)
  clear k18_0 k18_1 k18_2 k18_3 k18_4 k18_5 k18_6 k18_7 k18_8 k18_9
  go_wp2_with fail
  go_ret
  exact ⟨rfl, (by (repeat (first | with_reducible exact Below.refl _ _ | (with_reducible refine bel_next ?_ ?_ (by assumption)) | (with_reducible refine Below.alloc ?_ ?_ _) | (with_reducible refine Below.drew ?_) | (with_reducible refine below_drewN ?_ _) | (with_reducible refine Below.setCell ?_ ?_ _))) <;> (first | omega | (simp; done) | (simp; omega)))⟩
end Go.Proofs.Ytfpblgbokmpmjaa

/- The walk of the law FnExactEvalCircuit. -/
import Derived.Test.YtfpblgbokmpmjaaCircM
import Derived.Test.YtfpblgbokmpmjaaEval
import Derived.Test.YtfpblgbokmpmjaaShare
import Derived.Deep.RegionHeld3
namespace Go.Proofs.Ytfpblgbokmpmjaa
open Go.RowKit
set_option linter.unusedVariables false
set_option linter.unusedSimpArgs false

set_option maxRecDepth 20000 in
set_option maxHeartbeats 16000000 in
theorem walk_FnExactEvalCircuit (w : World) (ns00 : List Int) (len00 : Nat) (ad00 : Option Addr) (cap00 : Nat) (e00 : ns00.length = len00 * 3) (hm00 : len00 ≤ maxLen) (hr00 : RdC w ad00 (I64 ns00)) (xs01 : List Int) (ad01 : Option Addr) (cap01 : Nat) (hm01 : xs01.length ≤ maxLen) (hr01 : RdC w ad01 (I64 xs01)) (xs1 : List Int) (ad1 : Option Addr) (cap1 : Nat) (hm1 : xs1.length ≤ maxLen) (hr1 : RdC w ad1 (I64 xs1)) :
    Calls Try.prog 7 #[.agg #[.slice ad00 len00 cap00, .slice ad01 xs01.length cap01], .slice ad1 xs1.length cap1] w fun e w' => e = .returned (.bool true) ∧ Below w.heap.size w w' := by
  obtain ⟨gs, hl0, hx0⟩ := gt_of_ints len00 ns00 e00
  rw [← hx0] at hr00
  subst hl0
  clear e00 hx0 ns00
  have HR0 := Lib.hid hr00
  have HR1 := Lib.hid hr01
  clear hr00 hr01
  have HA1 := Lib.hid hr1
  clear hr1
  by_cases hs1 : xs1.length ≤ 1048576
  case neg =>
    have hs1' : (1048576 : Int) < (xs1.length : Int) := by omega
    unfold maxLen at *
    go_enter Try.func7, Try.ntmps7
    go_wp2_with fail
    go_ret
    exact ⟨rfl, (by (repeat (first | with_reducible exact Below.refl _ _ | (with_reducible refine bel_next ?_ ?_ (by assumption)) | (with_reducible refine Below.alloc ?_ ?_ _) | (with_reducible refine Below.drew ?_) | (with_reducible refine below_drewN ?_ _) | (with_reducible refine Below.setCell ?_ ?_ _))) <;> (first | omega | (simp; done) | (simp; omega)))⟩
  by_cases hsz : (gs.length : Int) + xs01.length ≤ 1048576
  case neg =>
    have e1 : (if (gs.length : Int) + xs01.length ≤ 1048576 then 1048576 - (gs.length : Int) - xs01.length else -1) = -1 := if_neg hsz
    have E1 := Lib.hid e1
    clear e1
    go_enter Try.func7, Try.ntmps7
    go_wp2_with fail
    refine (szCircuit_any gs.length xs01.length _ _ _ _ _ hm00 hm01 1048576 (by omega) (by omega)).mono ?_
    rintro e w1 ⟨rfl, hb1⟩
    rw [E1.out]
    go_wp2_with fail
    go_ret
    exact ⟨rfl, (by (repeat (first | with_reducible exact Below.refl _ _ | (with_reducible refine bel_next ?_ ?_ (by assumption)) | (with_reducible refine Below.alloc ?_ ?_ _) | (with_reducible refine Below.drew ?_) | (with_reducible refine below_drewN ?_ _) | (with_reducible refine Below.setCell ?_ ?_ _))) <;> (first | omega | (simp; done) | (simp; omega)))⟩
  have e1 : (if (gs.length : Int) + xs01.length ≤ 1048576 then 1048576 - (gs.length : Int) - xs01.length else -1) = 1048576 - gs.length - xs01.length := if_pos hsz
  obtain ⟨ll, hll⟩ : ∃ l : Int, l = 1048576 - (gs.length : Int) - xs01.length := ⟨_, rfl⟩
  have E1 := Lib.hid (e1.trans hll.symm)
  have hl0 : 0 ≤ ll := by omega
  have hl1 : ll ≤ 1048576 := by omega
  clear e1 hll
  have hm0 : gs.length ≤ 1048576 := by omega
  have hm1 : xs01.length ≤ 1048576 := by omega
  have hneg : decide (ll < 0) = false := decide_eq_false (by omega)
  have hF : (evalOuts gs xs01 xs1).length ≤ 1048576 := by have := evalOuts_len gs xs01 xs1; omega
  go_enter Try.func7, Try.ntmps7
  go_wp2_with fail
  refine (szCircuit_any gs.length xs01.length _ _ _ _ _ hm00 hm01 1048576 (by omega) (by omega)).mono ?_
  rintro e w1 ⟨rfl, hb1⟩
  rw [E1.out]
  have z1 := hb1.size
  (try simp at z1)
  have y1_0 : w.heap.size < w1.heap.size := (by omega)
  have k1_0 := bel_keeps hb1 (b := w.heap.size) (o := 0) (v := .slice ad00 gs.length cap00) (by first | (go_simp; done) | assumption)
  have k1_1 := bel_keeps hb1 (b := w.heap.size) (o := 1) (v := .slice ad01 xs01.length cap01) (by first | (go_simp; done) | assumption)
  go_wp2_with fail
  refine (toCircuit_any gs xs01 _ _ _ _ _ hm0 hm1 (HR0.out.below (by (repeat (first | with_reducible exact Below.refl _ _ | (with_reducible refine bel_next ?_ ?_ (by assumption)) | (with_reducible refine Below.alloc ?_ ?_ _) | (with_reducible refine Below.drew ?_) | (with_reducible refine below_drewN ?_ _) | (with_reducible refine Below.setCell ?_ ?_ _))) <;> (first | omega | (simp; done) | (simp; omega)))) (HR1.out.below (by (repeat (first | with_reducible exact Below.refl _ _ | (with_reducible refine bel_next ?_ ?_ (by assumption)) | (with_reducible refine Below.alloc ?_ ?_ _) | (with_reducible refine Below.drew ?_) | (with_reducible refine below_drewN ?_ _) | (with_reducible refine Below.setCell ?_ ?_ _))) <;> (first | omega | (simp; done) | (simp; omega))))).mono ?_
  rintro e w2 ⟨g12, g22, rfl, o12, o22, lt2, hb2⟩
  have z2 := hb2.size
  (try simp at z2)
  have y2_0 : w.heap.size < w2.heap.size := (by omega)
  have k2_0 := bel_keeps hb2 (b := w.heap.size) (o := 0) (v := .slice ad00 gs.length cap00) (by first | (go_simp; done) | assumption)
  have k2_1 := bel_keeps hb2 (b := w.heap.size) (o := 1) (v := .slice ad01 xs01.length cap01) (by first | (go_simp; done) | assumption)
  clear k1_0 k1_1
  have i12 := o12.ins
  have i22 := o22.ins
  have ne2 : ∀ x y, (some ⟨g12, 0, none⟩ : Option Addr) = some x → (some ⟨g22, 0, none⟩ : Option Addr) = some y → x.block ≠ y.block := by (intro x y hx hy; obtain rfl := Option.some.inj hx; obtain rfl := Option.some.inj hy; simp; omega)
  go_wp2_with fail
  refine (toIntS_own xs1 _ _ _ hs1 (HA1.out.below (by (repeat (first | with_reducible exact Below.refl _ _ | (with_reducible refine bel_next ?_ ?_ (by assumption)) | (with_reducible refine Below.alloc ?_ ?_ _) | (with_reducible refine Below.drew ?_) | (with_reducible refine below_drewN ?_ _) | (with_reducible refine Below.setCell ?_ ?_ _))) <;> (first | omega | (simp; done) | (simp; omega))))).mono ?_
  rintro e w3 ⟨g3, rfl, ho3, lo3, hi3, hb3⟩
  have z3 := hb3.size
  (try simp at z3)
  have y3_0 : w.heap.size < w3.heap.size := (by omega)
  have k3_0 := bel_keeps hb3 (b := w.heap.size) (o := 0) (v := .slice ad00 gs.length cap00) (by first | (go_simp; done) | assumption)
  have k3_1 := bel_keeps hb3 (b := w.heap.size) (o := 1) (v := .slice ad01 xs01.length cap01) (by first | (go_simp; done) | assumption)
  clear k2_0 k2_1
  have ii3 := ho3.ins
  go_wp2_with fail
  refine (sEvalCircuit_any gs xs01 xs1 _ _ _ _ _ _ _ hm0 hm1 hs1 (o12.keep (fun a ha => (by have hh := i12 a ha; exact (by (repeat (first | with_reducible exact Kp.refl _ _ | (with_reducible refine Kp.rng ?_ (by assumption) ?_) | (with_reducible refine Kp.below ?_ (by assumption)) | (with_reducible refine Kp.grown ?_ (by assumption) ?_) | (with_reducible refine Kp.alloc ?_ _) | (with_reducible refine Kp.drew ?_) | (with_reducible refine Kp.drewN ?_ _) | (with_reducible refine Kp.setCell ?_ _ ?_))) <;> (first | omega | (simp; done) | (simp; omega)))))).rd (o22.keep (fun a ha => (by have hh := i22 a ha; exact (by (repeat (first | with_reducible exact Kp.refl _ _ | (with_reducible refine Kp.rng ?_ (by assumption) ?_) | (with_reducible refine Kp.below ?_ (by assumption)) | (with_reducible refine Kp.grown ?_ (by assumption) ?_) | (with_reducible refine Kp.alloc ?_ _) | (with_reducible refine Kp.drew ?_) | (with_reducible refine Kp.drewN ?_ _) | (with_reducible refine Kp.setCell ?_ _ ?_))) <;> (first | omega | (simp; done) | (simp; omega)))))).rd (ho3.keep (fun a ha => (by have hh := ii3 a ha; exact (by (repeat (first | with_reducible exact Kp.refl _ _ | (with_reducible refine Kp.rng ?_ (by assumption) ?_) | (with_reducible refine Kp.below ?_ (by assumption)) | (with_reducible refine Kp.grown ?_ (by assumption) ?_) | (with_reducible refine Kp.alloc ?_ _) | (with_reducible refine Kp.drew ?_) | (with_reducible refine Kp.drewN ?_ _) | (with_reducible refine Kp.setCell ?_ _ ?_))) <;> (first | omega | (simp; done) | (simp; omega)))))).rd).mono ?_
  rintro e w4 ⟨a4_0, c4_0, rfl, o4_0, hb4⟩
  have z4 := hb4.size
  (try simp at z4)
  have y4_0 : w.heap.size < w4.heap.size := (by omega)
  have k4_0 := bel_keeps hb4 (b := w.heap.size) (o := 0) (v := .slice ad00 gs.length cap00) (by first | (go_simp; done) | assumption)
  have k4_1 := bel_keeps hb4 (b := w.heap.size) (o := 1) (v := .slice ad01 xs01.length cap01) (by first | (go_simp; done) | assumption)
  clear k3_0 k3_1
  have i4_0 := o4_0.ins
  go_wp2_with fail
  refine (toCircuit_any gs xs01 _ _ _ _ _ hm0 hm1 (HR0.out.below (by (repeat (first | with_reducible exact Below.refl _ _ | (with_reducible refine bel_next ?_ ?_ (by assumption)) | (with_reducible refine Below.alloc ?_ ?_ _) | (with_reducible refine Below.drew ?_) | (with_reducible refine below_drewN ?_ _) | (with_reducible refine Below.setCell ?_ ?_ _))) <;> (first | omega | (simp; done) | (simp; omega)))) (HR1.out.below (by (repeat (first | with_reducible exact Below.refl _ _ | (with_reducible refine bel_next ?_ ?_ (by assumption)) | (with_reducible refine Below.alloc ?_ ?_ _) | (with_reducible refine Below.drew ?_) | (with_reducible refine below_drewN ?_ _) | (with_reducible refine Below.setCell ?_ ?_ _))) <;> (first | omega | (simp; done) | (simp; omega))))).mono ?_
  rintro e w5 ⟨g15, g25, rfl, o15, o25, lt5, hb5⟩
  have z5 := hb5.size
  (try simp at z5)
  have y5_0 : w.heap.size < w5.heap.size := (by omega)
  have k5_0 := bel_keeps hb5 (b := w.heap.size) (o := 0) (v := .slice ad00 gs.length cap00) (by first | (go_simp; done) | assumption)
  have k5_1 := bel_keeps hb5 (b := w.heap.size) (o := 1) (v := .slice ad01 xs01.length cap01) (by first | (go_simp; done) | assumption)
  clear k4_0 k4_1
  have i15 := o15.ins
  have i25 := o25.ins
  have ne5 : ∀ x y, (some ⟨g15, 0, none⟩ : Option Addr) = some x → (some ⟨g25, 0, none⟩ : Option Addr) = some y → x.block ≠ y.block := by (intro x y hx hy; obtain rfl := Option.some.inj hx; obtain rfl := Option.some.inj hy; simp; omega)
  go_wp2_with fail
  obtain ⟨w6, hw6⟩ : ∃ W, W = w5.alloc (.cells #[.slice (some ⟨g15, 0, none⟩) gs.length gs.length, .slice (some ⟨g25, 0, none⟩) xs01.length xs01.length] 30) := ⟨_, rfl⟩
  rw [← hw6]
  have hb6 : Below w5.heap.size w5 w6 := by rw [hw6]; exact (Below.refl _ _).alloc (Nat.le_refl _) _
  have x6 : w5.heap.size < w6.heap.size := by rw [hw6]; simp
  have z6 := hb6.size
  (try simp at z6)
  have y6_0 : w.heap.size < w6.heap.size := (by omega)
  have k6_0 := bel_keeps hb6 (b := w.heap.size) (o := 0) (v := .slice ad00 gs.length cap00) (by first | (go_simp; done) | assumption)
  have k6_1 := bel_keeps hb6 (b := w.heap.size) (o := 1) (v := .slice ad01 xs01.length cap01) (by first | (go_simp; done) | assumption)
  clear k5_0 k5_1
  have kb6_0 : w6.cell? ⟨w5.heap.size, 0, none⟩ = some (.slice (some ⟨g15, 0, none⟩) gs.length gs.length) := by rw [hw6]; go_simp
  have kb6_1 : w6.cell? ⟨w5.heap.size, 1, none⟩ = some (.slice (some ⟨g25, 0, none⟩) xs01.length xs01.length) := by rw [hw6]; go_simp
  clear hw6
  go_wp2_with fail
  refine (toIntS_own xs1 _ _ _ hs1 (HA1.out.below (by (repeat (first | with_reducible exact Below.refl _ _ | (with_reducible refine bel_next ?_ ?_ (by assumption)) | (with_reducible refine Below.alloc ?_ ?_ _) | (with_reducible refine Below.drew ?_) | (with_reducible refine below_drewN ?_ _) | (with_reducible refine Below.setCell ?_ ?_ _))) <;> (first | omega | (simp; done) | (simp; omega))))).mono ?_
  rintro e w7 ⟨g7, rfl, ho7, lo7, hi7, hb7⟩
  have z7 := hb7.size
  (try simp at z7)
  have y7_0 : w.heap.size < w7.heap.size := (by omega)
  have y7_1 : w5.heap.size < w7.heap.size := (by omega)
  have k7_0 := bel_keeps hb7 (b := w.heap.size) (o := 0) (v := .slice ad00 gs.length cap00) (by first | (go_simp; done) | assumption)
  have k7_1 := bel_keeps hb7 (b := w.heap.size) (o := 1) (v := .slice ad01 xs01.length cap01) (by first | (go_simp; done) | assumption)
  have k7_2 := bel_keeps hb7 (b := w5.heap.size) (o := 0) (v := .slice (some ⟨g15, 0, none⟩) gs.length gs.length) (by first | (go_simp; done) | assumption)
  have k7_3 := bel_keeps hb7 (b := w5.heap.size) (o := 1) (v := .slice (some ⟨g25, 0, none⟩) xs01.length xs01.length) (by first | (go_simp; done) | assumption)
  clear k6_0 k6_1 kb6_0 kb6_1
  have ii7 := ho7.ins
  go_wp2_with fail
  refine (iEvalCircuit_any gs xs01 xs1 _ _ _ _ _ _ _ hm0 hm1 hs1 (o15.keep (fun a ha => (by have hh := i15 a ha; exact (by (repeat (first | with_reducible exact Kp.refl _ _ | (with_reducible refine Kp.rng ?_ (by assumption) ?_) | (with_reducible refine Kp.below ?_ (by assumption)) | (with_reducible refine Kp.grown ?_ (by assumption) ?_) | (with_reducible refine Kp.alloc ?_ _) | (with_reducible refine Kp.drew ?_) | (with_reducible refine Kp.drewN ?_ _) | (with_reducible refine Kp.setCell ?_ _ ?_))) <;> (first | omega | (simp; done) | (simp; omega)))))).rd (o25.keep (fun a ha => (by have hh := i25 a ha; exact (by (repeat (first | with_reducible exact Kp.refl _ _ | (with_reducible refine Kp.rng ?_ (by assumption) ?_) | (with_reducible refine Kp.below ?_ (by assumption)) | (with_reducible refine Kp.grown ?_ (by assumption) ?_) | (with_reducible refine Kp.alloc ?_ _) | (with_reducible refine Kp.drew ?_) | (with_reducible refine Kp.drewN ?_ _) | (with_reducible refine Kp.setCell ?_ _ ?_))) <;> (first | omega | (simp; done) | (simp; omega)))))).rd (ho7.keep (fun a ha => (by have hh := ii7 a ha; exact (by (repeat (first | with_reducible exact Kp.refl _ _ | (with_reducible refine Kp.rng ?_ (by assumption) ?_) | (with_reducible refine Kp.below ?_ (by assumption)) | (with_reducible refine Kp.grown ?_ (by assumption) ?_) | (with_reducible refine Kp.alloc ?_ _) | (with_reducible refine Kp.drew ?_) | (with_reducible refine Kp.drewN ?_ _) | (with_reducible refine Kp.setCell ?_ _ ?_))) <;> (first | omega | (simp; done) | (simp; omega)))))).rd).mono ?_
  rintro e w8 ⟨a8_0, c8_0, rfl, o8_0, hb8⟩
  have z8 := hb8.size
  (try simp at z8)
  have y8_0 : w.heap.size < w8.heap.size := (by omega)
  have y8_1 : w5.heap.size < w8.heap.size := (by omega)
  have k8_0 := bel_keeps hb8 (b := w.heap.size) (o := 0) (v := .slice ad00 gs.length cap00) (by first | (go_simp; done) | assumption)
  have k8_1 := bel_keeps hb8 (b := w.heap.size) (o := 1) (v := .slice ad01 xs01.length cap01) (by first | (go_simp; done) | assumption)
  have k8_2 := bel_keeps hb8 (b := w5.heap.size) (o := 0) (v := .slice (some ⟨g15, 0, none⟩) gs.length gs.length) (by first | (go_simp; done) | assumption)
  have k8_3 := bel_keeps hb8 (b := w5.heap.size) (o := 1) (v := .slice (some ⟨g25, 0, none⟩) xs01.length xs01.length) (by first | (go_simp; done) | assumption)
  clear k7_0 k7_1 k7_2 k7_3
  have i8_0 := o8_0.ins
  go_wp2_with fail
  refine (eqIntS_same (evalOuts gs xs01 xs1) _ _ _ _ _ hF (o8_0.keep (fun a ha => (by have hh := i8_0 a ha; exact (by (repeat (first | with_reducible exact Kp.refl _ _ | (with_reducible refine Kp.rng ?_ (by assumption) ?_) | (with_reducible refine Kp.below ?_ (by assumption)) | (with_reducible refine Kp.grown ?_ (by assumption) ?_) | (with_reducible refine Kp.alloc ?_ _) | (with_reducible refine Kp.drew ?_) | (with_reducible refine Kp.drewN ?_ _) | (with_reducible refine Kp.setCell ?_ _ ?_))) <;> (first | omega | (simp; done) | (simp; omega)))))).rd (o4_0.keep (fun a ha => (by have hh := i4_0 a ha; exact (by (repeat (first | with_reducible exact Kp.refl _ _ | (with_reducible refine Kp.rng ?_ (by assumption) ?_) | (with_reducible refine Kp.below ?_ (by assumption)) | (with_reducible refine Kp.grown ?_ (by assumption) ?_) | (with_reducible refine Kp.alloc ?_ _) | (with_reducible refine Kp.drew ?_) | (with_reducible refine Kp.drewN ?_ _) | (with_reducible refine Kp.setCell ?_ _ ?_))) <;> (first | omega | (simp; done) | (simp; omega)))))).rd).mono ?_
  rintro e _ ⟨rfl, m9, rfl⟩
  obtain ⟨w9, hw9⟩ : ∃ W, W = w8.drewN m9 := ⟨_, rfl⟩
  rw [← hw9]
  have hb9 : Below w8.heap.size w8 w9 := by rw [hw9]; exact below_drewN (Below.refl _ _) _
  clear hw9
  have z9 := hb9.size
  (try simp at z9)
  have y9_0 : w.heap.size < w9.heap.size := (by omega)
  have y9_1 : w5.heap.size < w9.heap.size := (by omega)
  have k9_0 := bel_keeps hb9 (b := w.heap.size) (o := 0) (v := .slice ad00 gs.length cap00) (by first | (go_simp; done) | assumption)
  have k9_1 := bel_keeps hb9 (b := w.heap.size) (o := 1) (v := .slice ad01 xs01.length cap01) (by first | (go_simp; done) | assumption)
  have k9_2 := bel_keeps hb9 (b := w5.heap.size) (o := 0) (v := .slice (some ⟨g15, 0, none⟩) gs.length gs.length) (by first | (go_simp; done) | assumption)
  have k9_3 := bel_keeps hb9 (b := w5.heap.size) (o := 1) (v := .slice (some ⟨g25, 0, none⟩) xs01.length xs01.length) (by first | (go_simp; done) | assumption)
  clear k8_0 k8_1 k8_2 k8_3
  go_wp2_with fail
  apply wp_share2 (F := fun W p110 p210 => Below w9.heap.size w9 W ∧ True)
  case h1 =>
    go_region_held3 (fun w' => w'.cell? ⟨w5.heap.size, 0, none⟩ = some (.slice (some ⟨g15, 0, none⟩) gs.length gs.length) ∧ w'.cell? ⟨w5.heap.size, 1, none⟩ = some (.slice (some ⟨g25, 0, none⟩) xs01.length xs01.length) ∧ w'.cell? ⟨w.heap.size, 0, none⟩ = some (.slice ad00 gs.length cap00) ∧ w'.cell? ⟨w.heap.size, 1, none⟩ = some (.slice ad01 xs01.length cap01))
      (first | go_keep)
      (first | (go_at_call 19; refine (toCircuit_any gs xs01 _ _ _ _ _ hm0 hm1 (HR0.out.below (by (repeat (first | with_reducible exact Below.refl _ _ | (with_reducible refine bel_next ?_ ?_ (by assumption)) | (with_reducible refine Below.alloc ?_ ?_ _) | (with_reducible refine Below.drew ?_) | (with_reducible refine below_drewN ?_ _) | (with_reducible refine Below.setCell ?_ ?_ _))) <;> (first | omega | (simp; done) | (simp; omega)))) (HR1.out.below (by (repeat (first | with_reducible exact Below.refl _ _ | (with_reducible refine bel_next ?_ ?_ (by assumption)) | (with_reducible refine Below.alloc ?_ ?_ _) | (with_reducible refine Below.drew ?_) | (with_reducible refine below_drewN ?_ _) | (with_reducible refine Below.setCell ?_ ?_ _))) <;> (first | omega | (simp; done) | (simp; omega))))).mono ?_; rintro e v1 ⟨p110, p210, rfl, hp1, hp2, hp3, hv1⟩; have zv1 := hv1.size; (try simp at zv1); have yv1_0 : w5.heap.size < v1.heap.size := (by omega); have nv1_0 : w5.heap.size ≠ v1.heap.size := (by omega); have mv1_0 : v1.heap.size ≠ w5.heap.size := (by omega); have yv1_1 : w.heap.size < v1.heap.size := (by omega); have nv1_1 : w.heap.size ≠ v1.heap.size := (by omega); have mv1_1 : v1.heap.size ≠ w.heap.size := (by omega); have kv1_0 := bel_keeps hv1 (b := w5.heap.size) (o := 0) (v := .slice (some ⟨g15, 0, none⟩) gs.length gs.length) (by first | (go_simp; done) | assumption); have kv1_1 := bel_keeps hv1 (b := w5.heap.size) (o := 1) (v := .slice (some ⟨g25, 0, none⟩) xs01.length xs01.length) (by first | (go_simp; done) | assumption); have kv1_2 := bel_keeps hv1 (b := w.heap.size) (o := 0) (v := .slice ad00 gs.length cap00) (by first | (go_simp; done) | assumption); have kv1_3 := bel_keeps hv1 (b := w.heap.size) (o := 1) (v := .slice ad01 xs01.length cap01) (by first | (go_simp; done) | assumption)) | (go_at_call 21; refine (eqCircuit_same gs xs01 _ _ _ _ _ _ _ _ _ hm0 hm1 (o15.keep (fun a ha => (by have hh := i15 a ha; exact (by (repeat (first | with_reducible exact Kp.refl _ _ | (with_reducible refine Kp.rng ?_ (by assumption) ?_) | (with_reducible refine Kp.below ?_ (by assumption)) | (with_reducible refine Kp.grown ?_ (by assumption) ?_) | (with_reducible refine Kp.alloc ?_ _) | (with_reducible refine Kp.drew ?_) | (with_reducible refine Kp.drewN ?_ _) | (with_reducible refine Kp.setCell ?_ _ ?_))) <;> (first | omega | (simp; done) | (simp; omega)))))).rd (o25.keep (fun a ha => (by have hh := i25 a ha; exact (by (repeat (first | with_reducible exact Kp.refl _ _ | (with_reducible refine Kp.rng ?_ (by assumption) ?_) | (with_reducible refine Kp.below ?_ (by assumption)) | (with_reducible refine Kp.grown ?_ (by assumption) ?_) | (with_reducible refine Kp.alloc ?_ _) | (with_reducible refine Kp.drew ?_) | (with_reducible refine Kp.drewN ?_ _) | (with_reducible refine Kp.setCell ?_ _ ?_))) <;> (first | omega | (simp; done) | (simp; omega)))))).rd (hp1.rd.below (by (repeat (first | with_reducible exact Below.refl _ _ | (with_reducible refine bel_next ?_ ?_ (by assumption)) | (with_reducible refine Below.alloc ?_ ?_ _) | (with_reducible refine Below.drew ?_) | (with_reducible refine below_drewN ?_ _) | (with_reducible refine Below.setCell ?_ ?_ _))) <;> (first | omega | (simp; done) | (simp; omega)))) (hp2.rd.below (by (repeat (first | with_reducible exact Below.refl _ _ | (with_reducible refine bel_next ?_ ?_ (by assumption)) | (with_reducible refine Below.alloc ?_ ?_ _) | (with_reducible refine Below.drew ?_) | (with_reducible refine below_drewN ?_ _) | (with_reducible refine Below.setCell ?_ ?_ _))) <;> (first | omega | (simp; done) | (simp; omega))))).mono ?_; rintro e v2 ⟨rfl, hv2⟩; have zv2 := hv2.size; (try simp at zv2); have yv2_0 : w5.heap.size < v2.heap.size := (by omega); have nv2_0 : w5.heap.size ≠ v2.heap.size := (by omega); have mv2_0 : v2.heap.size ≠ w5.heap.size := (by omega); have yv2_1 : w.heap.size < v2.heap.size := (by omega); have nv2_1 : w.heap.size ≠ v2.heap.size := (by omega); have mv2_1 : v2.heap.size ≠ w.heap.size := (by omega); have kv2_0 := bel_keeps hv2 (b := w5.heap.size) (o := 0) (v := .slice (some ⟨g15, 0, none⟩) gs.length gs.length) (by first | (go_simp; done) | assumption); have kv2_1 := bel_keeps hv2 (b := w5.heap.size) (o := 1) (v := .slice (some ⟨g25, 0, none⟩) xs01.length xs01.length) (by first | (go_simp; done) | assumption); have kv2_2 := bel_keeps hv2 (b := w.heap.size) (o := 0) (v := .slice ad00 gs.length cap00) (by first | (go_simp; done) | assumption); have kv2_3 := bel_keeps hv2 (b := w.heap.size) (o := 1) (v := .slice ad01 xs01.length cap01) (by first | (go_simp; done) | assumption)))
    ·
      refine ⟨rfl, p110, p210, ⟨(by (repeat (first | with_reducible exact Below.refl _ _ | (with_reducible refine bel_next ?_ ?_ (by assumption)) | (with_reducible refine Below.alloc ?_ ?_ _) | (with_reducible refine Below.drew ?_) | (with_reducible refine below_drewN ?_ _) | (with_reducible refine Below.setCell ?_ ?_ _))) <;> (first | omega | (simp; done) | (simp; omega))), trivial⟩, ?_⟩
      generalize v2 = W
      rfl
  rintro w10 p110 p210 ⟨hb10, r10_0⟩
  have z10 := hb10.size
  (try simp at z10)
  have y10_0 : w.heap.size < w10.heap.size := (by omega)
  have y10_1 : w5.heap.size < w10.heap.size := (by omega)
  have k10_0 := bel_keeps hb10 (b := w.heap.size) (o := 0) (v := .slice ad00 gs.length cap00) (by first | (go_simp; done) | assumption)
  have k10_1 := bel_keeps hb10 (b := w.heap.size) (o := 1) (v := .slice ad01 xs01.length cap01) (by first | (go_simp; done) | assumption)
  have k10_2 := bel_keeps hb10 (b := w5.heap.size) (o := 0) (v := .slice (some ⟨g15, 0, none⟩) gs.length gs.length) (by first | (go_simp; done) | assumption)
  have k10_3 := bel_keeps hb10 (b := w5.heap.size) (o := 1) (v := .slice (some ⟨g25, 0, none⟩) xs01.length xs01.length) (by first | (go_simp; done) | assumption)
  clear k9_0 k9_1 k9_2 k9_3
  go_wp2_with fail
  refine (toIntS_own xs1 _ _ _ hs1 (HA1.out.below (by (repeat (first | with_reducible exact Below.refl _ _ | (with_reducible refine bel_next ?_ ?_ (by assumption)) | (with_reducible refine Below.alloc ?_ ?_ _) | (with_reducible refine Below.drew ?_) | (with_reducible refine below_drewN ?_ _) | (with_reducible refine Below.setCell ?_ ?_ _))) <;> (first | omega | (simp; done) | (simp; omega))))).mono ?_
  rintro e w11 ⟨g11, rfl, ho11, lo11, hi11, hb11⟩
  have z11 := hb11.size
  (try simp at z11)
  have y11_0 : w.heap.size < w11.heap.size := (by omega)
  have y11_1 : w5.heap.size < w11.heap.size := (by omega)
  have k11_0 := bel_keeps hb11 (b := w.heap.size) (o := 0) (v := .slice ad00 gs.length cap00) (by first | (go_simp; done) | assumption)
  have k11_1 := bel_keeps hb11 (b := w.heap.size) (o := 1) (v := .slice ad01 xs01.length cap01) (by first | (go_simp; done) | assumption)
  have k11_2 := bel_keeps hb11 (b := w5.heap.size) (o := 0) (v := .slice (some ⟨g15, 0, none⟩) gs.length gs.length) (by first | (go_simp; done) | assumption)
  have k11_3 := bel_keeps hb11 (b := w5.heap.size) (o := 1) (v := .slice (some ⟨g25, 0, none⟩) xs01.length xs01.length) (by first | (go_simp; done) | assumption)
  clear k10_0 k10_1 k10_2 k10_3
  have ii11 := ho11.ins
  go_wp2_with fail
  refine (eqIntS_same xs1 _ _ _ _ _ hs1 (ho7.keep (fun a ha => (by have hh := ii7 a ha; exact (by (repeat (first | with_reducible exact Kp.refl _ _ | (with_reducible refine Kp.rng ?_ (by assumption) ?_) | (with_reducible refine Kp.below ?_ (by assumption)) | (with_reducible refine Kp.grown ?_ (by assumption) ?_) | (with_reducible refine Kp.alloc ?_ _) | (with_reducible refine Kp.drew ?_) | (with_reducible refine Kp.drewN ?_ _) | (with_reducible refine Kp.setCell ?_ _ ?_))) <;> (first | omega | (simp; done) | (simp; omega)))))).rd (ho11.keep (fun a ha => (by have hh := ii11 a ha; exact (by (repeat (first | with_reducible exact Kp.refl _ _ | (with_reducible refine Kp.rng ?_ (by assumption) ?_) | (with_reducible refine Kp.below ?_ (by assumption)) | (with_reducible refine Kp.grown ?_ (by assumption) ?_) | (with_reducible refine Kp.alloc ?_ _) | (with_reducible refine Kp.drew ?_) | (with_reducible refine Kp.drewN ?_ _) | (with_reducible refine Kp.setCell ?_ _ ?_))) <;> (first | omega | (simp; done) | (simp; omega)))))).rd).mono ?_
  rintro e _ ⟨rfl, m12, rfl⟩
  obtain ⟨w12, hw12⟩ : ∃ W, W = w11.drewN m12 := ⟨_, rfl⟩
  rw [← hw12]
  have hb12 : Below w11.heap.size w11 w12 := by rw [hw12]; exact below_drewN (Below.refl _ _) _
  clear hw12
  have z12 := hb12.size
  (try simp at z12)
  have y12_0 : w.heap.size < w12.heap.size := (by omega)
  have y12_1 : w5.heap.size < w12.heap.size := (by omega)
  have k12_0 := bel_keeps hb12 (b := w.heap.size) (o := 0) (v := .slice ad00 gs.length cap00) (by first | (go_simp; done) | assumption)
  have k12_1 := bel_keeps hb12 (b := w.heap.size) (o := 1) (v := .slice ad01 xs01.length cap01) (by first | (go_simp; done) | assumption)
  have k12_2 := bel_keeps hb12 (b := w5.heap.size) (o := 0) (v := .slice (some ⟨g15, 0, none⟩) gs.length gs.length) (by first | (go_simp; done) | assumption)
  have k12_3 := bel_keeps hb12 (b := w5.heap.size) (o := 1) (v := .slice (some ⟨g25, 0, none⟩) xs01.length xs01.length) (by first | (go_simp; done) | assumption)
  clear k11_0 k11_1 k11_2 k11_3
  go_wp2_with fail
  refine (markCircuit_any (gs.length) (xs01.length) _ _ _ _ w4.heap.size w5.heap.size 1 (some ⟨g15, 0, none⟩) (some ⟨g25, 0, none⟩) _ _ _ (by omega) (by omega) hm0 hm1 (o15.keep (fun a ha => (by have hh := i15 a ha; exact (by (repeat (first | with_reducible exact Kp.refl _ _ | (with_reducible refine Kp.rng ?_ (by assumption) ?_) | (with_reducible refine Kp.below ?_ (by assumption)) | (with_reducible refine Kp.grown ?_ (by assumption) ?_) | (with_reducible refine Kp.alloc ?_ _) | (with_reducible refine Kp.drew ?_) | (with_reducible refine Kp.drewN ?_ _) | (with_reducible refine Kp.setCell ?_ _ ?_))) <;> (first | omega | (simp; done) | (simp; omega)))))) (o25.keep (fun a ha => (by have hh := i25 a ha; exact (by (repeat (first | with_reducible exact Kp.refl _ _ | (with_reducible refine Kp.rng ?_ (by assumption) ?_) | (with_reducible refine Kp.below ?_ (by assumption)) | (with_reducible refine Kp.grown ?_ (by assumption) ?_) | (with_reducible refine Kp.alloc ?_ _) | (with_reducible refine Kp.drew ?_) | (with_reducible refine Kp.drewN ?_ _) | (with_reducible refine Kp.setCell ?_ _ ?_))) <;> (first | omega | (simp; done) | (simp; omega)))))) i15 i25 ne5 (by omega) (by first | omega | (simp; done) | (simp; omega))).mono ?_
  rintro e w13 ⟨rfl, o113, o213, hb13, hr13⟩
  have z13 := hb13.size
  (try simp at z13)
  have y13_0 : w.heap.size < w13.heap.size := (by omega)
  have y13_1 : w5.heap.size < w13.heap.size := (by omega)
  have k13_0 : w13.cell? ⟨w.heap.size, 0, none⟩ = some (.slice ad00 gs.length cap00) := hr13.keeps (by omega) (by first | (go_simp; done) | assumption)
  have k13_1 : w13.cell? ⟨w.heap.size, 1, none⟩ = some (.slice ad01 xs01.length cap01) := hr13.keeps (by omega) (by first | (go_simp; done) | assumption)
  have k13_2 : w13.cell? ⟨w5.heap.size, 0, none⟩ = some (.slice (some ⟨g15, 0, none⟩) gs.length gs.length) := hr13.keeps (by omega) (by first | (go_simp; done) | assumption)
  have k13_3 : w13.cell? ⟨w5.heap.size, 1, none⟩ = some (.slice (some ⟨g25, 0, none⟩) xs01.length xs01.length) := hr13.keeps (by omega) (by first | (go_simp; done) | assumption)
  clear k12_0 k12_1 k12_2 k12_3
  go_wp2_with fail
  refine (markIntS_rng xs1.length _ _ w6.heap.size w7.heap.size (1 + (gs.length * 3 : Nat) + xs01.length) (some ⟨g7, 0, none⟩) _ _ (by omega) (by omega) hs1 (ho7.keep (fun a ha => (by have hh := ii7 a ha; exact (by (repeat (first | with_reducible exact Kp.refl _ _ | (with_reducible refine Kp.rng ?_ (by assumption) ?_) | (with_reducible refine Kp.below ?_ (by assumption)) | (with_reducible refine Kp.grown ?_ (by assumption) ?_) | (with_reducible refine Kp.alloc ?_ _) | (with_reducible refine Kp.drew ?_) | (with_reducible refine Kp.drewN ?_ _) | (with_reducible refine Kp.setCell ?_ _ ?_))) <;> (first | omega | (simp; done) | (simp; omega)))))) ii7 (by first | omega | (simp; done) | (simp; omega))).mono ?_
  rintro e w14 ⟨rfl, ho14, hb14, hr14⟩
  have z14 := hb14.size
  (try simp at z14)
  have y14_0 : w.heap.size < w14.heap.size := (by omega)
  have y14_1 : w5.heap.size < w14.heap.size := (by omega)
  have k14_0 : w14.cell? ⟨w.heap.size, 0, none⟩ = some (.slice ad00 gs.length cap00) := hr14.keeps (by omega) (by first | (go_simp; done) | assumption)
  have k14_1 : w14.cell? ⟨w.heap.size, 1, none⟩ = some (.slice ad01 xs01.length cap01) := hr14.keeps (by omega) (by first | (go_simp; done) | assumption)
  have k14_2 : w14.cell? ⟨w5.heap.size, 0, none⟩ = some (.slice (some ⟨g15, 0, none⟩) gs.length gs.length) := hr14.keeps (by omega) (by first | (go_simp; done) | assumption)
  have k14_3 : w14.cell? ⟨w5.heap.size, 1, none⟩ = some (.slice (some ⟨g25, 0, none⟩) xs01.length xs01.length) := hr14.keeps (by omega) (by first | (go_simp; done) | assumption)
  clear k13_0 k13_1 k13_2 k13_3
  go_wp2_with fail
  refine (eqIntS_same (evalOuts gs xs01 xs1) _ _ _ _ _ hF (o8_0.keep (fun a ha => (by have hh := i8_0 a ha; exact (by (repeat (first | with_reducible exact Kp.refl _ _ | (with_reducible refine Kp.rng ?_ (by assumption) ?_) | (with_reducible refine Kp.below ?_ (by assumption)) | (with_reducible refine Kp.grown ?_ (by assumption) ?_) | (with_reducible refine Kp.alloc ?_ _) | (with_reducible refine Kp.drew ?_) | (with_reducible refine Kp.drewN ?_ _) | (with_reducible refine Kp.setCell ?_ _ ?_))) <;> (first | omega | (simp; done) | (simp; omega)))))).rd (o4_0.keep (fun a ha => (by have hh := i4_0 a ha; exact (by (repeat (first | with_reducible exact Kp.refl _ _ | (with_reducible refine Kp.rng ?_ (by assumption) ?_) | (with_reducible refine Kp.below ?_ (by assumption)) | (with_reducible refine Kp.grown ?_ (by assumption) ?_) | (with_reducible refine Kp.alloc ?_ _) | (with_reducible refine Kp.drew ?_) | (with_reducible refine Kp.drewN ?_ _) | (with_reducible refine Kp.setCell ?_ _ ?_))) <;> (first | omega | (simp; done) | (simp; omega)))))).rd).mono ?_
  rintro e _ ⟨rfl, m15, rfl⟩
  obtain ⟨w15, hw15⟩ : ∃ W, W = w14.drewN m15 := ⟨_, rfl⟩
  rw [← hw15]
  have hb15 : Below w14.heap.size w14 w15 := by rw [hw15]; exact below_drewN (Below.refl _ _) _
  clear hw15
  have z15 := hb15.size
  (try simp at z15)
  have y15_0 : w.heap.size < w15.heap.size := (by omega)
  have y15_1 : w5.heap.size < w15.heap.size := (by omega)
  have k15_0 := bel_keeps hb15 (b := w.heap.size) (o := 0) (v := .slice ad00 gs.length cap00) (by first | (go_simp; done) | assumption)
  have k15_1 := bel_keeps hb15 (b := w.heap.size) (o := 1) (v := .slice ad01 xs01.length cap01) (by first | (go_simp; done) | assumption)
  have k15_2 := bel_keeps hb15 (b := w5.heap.size) (o := 0) (v := .slice (some ⟨g15, 0, none⟩) gs.length gs.length) (by first | (go_simp; done) | assumption)
  have k15_3 := bel_keeps hb15 (b := w5.heap.size) (o := 1) (v := .slice (some ⟨g25, 0, none⟩) xs01.length xs01.length) (by first | (go_simp; done) | assumption)
  clear k14_0 k14_1 k14_2 k14_3
  go_wp2_with fail
  refine (markIntS_rng (evalOuts gs xs01 xs1).length _ _ w7.heap.size w8.heap.size 1 a8_0 _ _ (by omega) (by omega) hF (o8_0.keep (fun a ha => (by have hh := i8_0 a ha; exact (by (repeat (first | with_reducible exact Kp.refl _ _ | (with_reducible refine Kp.rng ?_ (by assumption) ?_) | (with_reducible refine Kp.below ?_ (by assumption)) | (with_reducible refine Kp.grown ?_ (by assumption) ?_) | (with_reducible refine Kp.alloc ?_ _) | (with_reducible refine Kp.drew ?_) | (with_reducible refine Kp.drewN ?_ _) | (with_reducible refine Kp.setCell ?_ _ ?_))) <;> (first | omega | (simp; done) | (simp; omega)))))) i8_0 (by first | omega | (simp; done) | (simp; omega))).mono ?_
  rintro e w16 ⟨rfl, ho16, hb16, hr16⟩
  have z16 := hb16.size
  (try simp at z16)
  have y16_0 : w.heap.size < w16.heap.size := (by omega)
  have y16_1 : w5.heap.size < w16.heap.size := (by omega)
  have k16_0 : w16.cell? ⟨w.heap.size, 0, none⟩ = some (.slice ad00 gs.length cap00) := hr16.keeps (by omega) (by first | (go_simp; done) | assumption)
  have k16_1 : w16.cell? ⟨w.heap.size, 1, none⟩ = some (.slice ad01 xs01.length cap01) := hr16.keeps (by omega) (by first | (go_simp; done) | assumption)
  have k16_2 : w16.cell? ⟨w5.heap.size, 0, none⟩ = some (.slice (some ⟨g15, 0, none⟩) gs.length gs.length) := hr16.keeps (by omega) (by first | (go_simp; done) | assumption)
  have k16_3 : w16.cell? ⟨w5.heap.size, 1, none⟩ = some (.slice (some ⟨g25, 0, none⟩) xs01.length xs01.length) := hr16.keeps (by omega) (by first | (go_simp; done) | assumption)
  clear k15_0 k15_1 k15_2 k15_3
  go_wp2_with fail
  refine (heldIntS_any (evalOuts gs xs01 xs1).length 1 _ _ _ (by omega) (by omega) hF (ho16.keep (fun a ha => (by have hh := i8_0 a ha; exact (by (repeat (first | with_reducible exact Kp.refl _ _ | (with_reducible refine Kp.rng ?_ (by assumption) ?_) | (with_reducible refine Kp.below ?_ (by assumption)) | (with_reducible refine Kp.grown ?_ (by assumption) ?_) | (with_reducible refine Kp.alloc ?_ _) | (with_reducible refine Kp.drew ?_) | (with_reducible refine Kp.drewN ?_ _) | (with_reducible refine Kp.setCell ?_ _ ?_))) <;> (first | omega | (simp; done) | (simp; omega)))))).rd).mono ?_
  rintro e _ ⟨rfl, rfl⟩
  go_wp2_with fail
  refine (toCircuit_any gs xs01 _ _ _ _ _ hm0 hm1 (HR0.out.below (by (repeat (first | with_reducible exact Below.refl _ _ | (with_reducible refine bel_next ?_ ?_ (by assumption)) | (with_reducible refine Below.alloc ?_ ?_ _) | (with_reducible refine Below.drew ?_) | (with_reducible refine below_drewN ?_ _) | (with_reducible refine Below.setCell ?_ ?_ _))) <;> (first | omega | (simp; done) | (simp; omega)))) (HR1.out.below (by (repeat (first | with_reducible exact Below.refl _ _ | (with_reducible refine bel_next ?_ ?_ (by assumption)) | (with_reducible refine Below.alloc ?_ ?_ _) | (with_reducible refine Below.drew ?_) | (with_reducible refine below_drewN ?_ _) | (with_reducible refine Below.setCell ?_ ?_ _))) <;> (first | omega | (simp; done) | (simp; omega))))).mono ?_
  rintro e w17 ⟨g117, g217, rfl, o117, o217, lt17, hb17⟩
  have z17 := hb17.size
  (try simp at z17)
  have y17_0 : w.heap.size < w17.heap.size := (by omega)
  have y17_1 : w5.heap.size < w17.heap.size := (by omega)
  have k17_0 := bel_keeps hb17 (b := w.heap.size) (o := 0) (v := .slice ad00 gs.length cap00) (by first | (go_simp; done) | assumption)
  have k17_1 := bel_keeps hb17 (b := w.heap.size) (o := 1) (v := .slice ad01 xs01.length cap01) (by first | (go_simp; done) | assumption)
  have k17_2 := bel_keeps hb17 (b := w5.heap.size) (o := 0) (v := .slice (some ⟨g15, 0, none⟩) gs.length gs.length) (by first | (go_simp; done) | assumption)
  have k17_3 := bel_keeps hb17 (b := w5.heap.size) (o := 1) (v := .slice (some ⟨g25, 0, none⟩) xs01.length xs01.length) (by first | (go_simp; done) | assumption)
  clear k16_0 k16_1 k16_2 k16_3
  have i117 := o117.ins
  have i217 := o217.ins
  have ne17 : ∀ x y, (some ⟨g117, 0, none⟩ : Option Addr) = some x → (some ⟨g217, 0, none⟩ : Option Addr) = some y → x.block ≠ y.block := by (intro x y hx hy; obtain rfl := Option.some.inj hx; obtain rfl := Option.some.inj hy; simp; omega)
  go_wp2_with fail
  refine (toIntS_own xs1 _ _ _ hs1 (HA1.out.below (by (repeat (first | with_reducible exact Below.refl _ _ | (with_reducible refine bel_next ?_ ?_ (by assumption)) | (with_reducible refine Below.alloc ?_ ?_ _) | (with_reducible refine Below.drew ?_) | (with_reducible refine below_drewN ?_ _) | (with_reducible refine Below.setCell ?_ ?_ _))) <;> (first | omega | (simp; done) | (simp; omega))))).mono ?_
  rintro e w18 ⟨g18, rfl, ho18, lo18, hi18, hb18⟩
  have z18 := hb18.size
  (try simp at z18)
  have y18_0 : w.heap.size < w18.heap.size := (by omega)
  have y18_1 : w5.heap.size < w18.heap.size := (by omega)
  have k18_0 := bel_keeps hb18 (b := w.heap.size) (o := 0) (v := .slice ad00 gs.length cap00) (by first | (go_simp; done) | assumption)
  have k18_1 := bel_keeps hb18 (b := w.heap.size) (o := 1) (v := .slice ad01 xs01.length cap01) (by first | (go_simp; done) | assumption)
  have k18_2 := bel_keeps hb18 (b := w5.heap.size) (o := 0) (v := .slice (some ⟨g15, 0, none⟩) gs.length gs.length) (by first | (go_simp; done) | assumption)
  have k18_3 := bel_keeps hb18 (b := w5.heap.size) (o := 1) (v := .slice (some ⟨g25, 0, none⟩) xs01.length xs01.length) (by first | (go_simp; done) | assumption)
  clear k17_0 k17_1 k17_2 k17_3
  have ii18 := ho18.ins
  go_wp2_with fail
  refine (iEvalCircuit_any gs xs01 xs1 _ _ _ _ _ _ _ hm0 hm1 hs1 (o117.keep (fun a ha => (by have hh := i117 a ha; exact (by (repeat (first | with_reducible exact Kp.refl _ _ | (with_reducible refine Kp.rng ?_ (by assumption) ?_) | (with_reducible refine Kp.below ?_ (by assumption)) | (with_reducible refine Kp.grown ?_ (by assumption) ?_) | (with_reducible refine Kp.alloc ?_ _) | (with_reducible refine Kp.drew ?_) | (with_reducible refine Kp.drewN ?_ _) | (with_reducible refine Kp.setCell ?_ _ ?_))) <;> (first | omega | (simp; done) | (simp; omega)))))).rd (o217.keep (fun a ha => (by have hh := i217 a ha; exact (by (repeat (first | with_reducible exact Kp.refl _ _ | (with_reducible refine Kp.rng ?_ (by assumption) ?_) | (with_reducible refine Kp.below ?_ (by assumption)) | (with_reducible refine Kp.grown ?_ (by assumption) ?_) | (with_reducible refine Kp.alloc ?_ _) | (with_reducible refine Kp.drew ?_) | (with_reducible refine Kp.drewN ?_ _) | (with_reducible refine Kp.setCell ?_ _ ?_))) <;> (first | omega | (simp; done) | (simp; omega)))))).rd (ho18.keep (fun a ha => (by have hh := ii18 a ha; exact (by (repeat (first | with_reducible exact Kp.refl _ _ | (with_reducible refine Kp.rng ?_ (by assumption) ?_) | (with_reducible refine Kp.below ?_ (by assumption)) | (with_reducible refine Kp.grown ?_ (by assumption) ?_) | (with_reducible refine Kp.alloc ?_ _) | (with_reducible refine Kp.drew ?_) | (with_reducible refine Kp.drewN ?_ _) | (with_reducible refine Kp.setCell ?_ _ ?_))) <;> (first | omega | (simp; done) | (simp; omega)))))).rd).mono ?_
  rintro e w19 ⟨a19_0, c19_0, rfl, o19_0, hb19⟩
  have z19 := hb19.size
  (try simp at z19)
  have y19_0 : w.heap.size < w19.heap.size := (by omega)
  have y19_1 : w5.heap.size < w19.heap.size := (by omega)
  have k19_0 := bel_keeps hb19 (b := w.heap.size) (o := 0) (v := .slice ad00 gs.length cap00) (by first | (go_simp; done) | assumption)
  have k19_1 := bel_keeps hb19 (b := w.heap.size) (o := 1) (v := .slice ad01 xs01.length cap01) (by first | (go_simp; done) | assumption)
  have k19_2 := bel_keeps hb19 (b := w5.heap.size) (o := 0) (v := .slice (some ⟨g15, 0, none⟩) gs.length gs.length) (by first | (go_simp; done) | assumption)
  have k19_3 := bel_keeps hb19 (b := w5.heap.size) (o := 1) (v := .slice (some ⟨g25, 0, none⟩) xs01.length xs01.length) (by first | (go_simp; done) | assumption)
  clear k18_0 k18_1 k18_2 k18_3
  have i19_0 := o19_0.ins
  go_wp2_with fail
  refine (eqIntS_same (evalOuts gs xs01 xs1) _ _ _ _ _ hF (o19_0.keep (fun a ha => (by have hh := i19_0 a ha; exact (by (repeat (first | with_reducible exact Kp.refl _ _ | (with_reducible refine Kp.rng ?_ (by assumption) ?_) | (with_reducible refine Kp.below ?_ (by assumption)) | (with_reducible refine Kp.grown ?_ (by assumption) ?_) | (with_reducible refine Kp.alloc ?_ _) | (with_reducible refine Kp.drew ?_) | (with_reducible refine Kp.drewN ?_ _) | (with_reducible refine Kp.setCell ?_ _ ?_))) <;> (first | omega | (simp; done) | (simp; omega)))))).rd (o4_0.keep (fun a ha => (by have hh := i4_0 a ha; exact (by (repeat (first | with_reducible exact Kp.refl _ _ | (with_reducible refine Kp.rng ?_ (by assumption) ?_) | (with_reducible refine Kp.below ?_ (by assumption)) | (with_reducible refine Kp.grown ?_ (by assumption) ?_) | (with_reducible refine Kp.alloc ?_ _) | (with_reducible refine Kp.drew ?_) | (with_reducible refine Kp.drewN ?_ _) | (with_reducible refine Kp.setCell ?_ _ ?_))) <;> (first | omega | (simp; done) | (simp; omega)))))).rd).mono ?_
  rintro e _ ⟨rfl, m20, rfl⟩
  obtain ⟨w20, hw20⟩ : ∃ W, W = w19.drewN m20 := ⟨_, rfl⟩
  rw [← hw20]
  have hb20 : Below w19.heap.size w19 w20 := by rw [hw20]; exact below_drewN (Below.refl _ _) _
  clear hw20
  have z20 := hb20.size
  (try simp at z20)
  have y20_0 : w.heap.size < w20.heap.size := (by omega)
  have y20_1 : w5.heap.size < w20.heap.size := (by omega)
  have k20_0 := bel_keeps hb20 (b := w.heap.size) (o := 0) (v := .slice ad00 gs.length cap00) (by first | (go_simp; done) | assumption)
  have k20_1 := bel_keeps hb20 (b := w.heap.size) (o := 1) (v := .slice ad01 xs01.length cap01) (by first | (go_simp; done) | assumption)
  have k20_2 := bel_keeps hb20 (b := w5.heap.size) (o := 0) (v := .slice (some ⟨g15, 0, none⟩) gs.length gs.length) (by first | (go_simp; done) | assumption)
  have k20_3 := bel_keeps hb20 (b := w5.heap.size) (o := 1) (v := .slice (some ⟨g25, 0, none⟩) xs01.length xs01.length) (by first | (go_simp; done) | assumption)
  clear k19_0 k19_1 k19_2 k19_3
  go_wp2_with fail
  refine (heldIntS_any (evalOuts gs xs01 xs1).length 1 _ _ _ (by omega) (by omega) hF (ho16.keep (fun a ha => (by have hh := i8_0 a ha; exact (by (repeat (first | with_reducible exact Kp.refl _ _ | (with_reducible refine Kp.rng ?_ (by assumption) ?_) | (with_reducible refine Kp.below ?_ (by assumption)) | (with_reducible refine Kp.grown ?_ (by assumption) ?_) | (with_reducible refine Kp.alloc ?_ _) | (with_reducible refine Kp.drew ?_) | (with_reducible refine Kp.drewN ?_ _) | (with_reducible refine Kp.setCell ?_ _ ?_))) <;> (first | omega | (simp; done) | (simp; omega)))))).rd).mono ?_
  rintro e _ ⟨rfl, rfl⟩
  go_wp2_with fail
  go_ret
  exact ⟨rfl, (by (repeat (first | with_reducible exact Below.refl _ _ | (with_reducible refine bel_next ?_ ?_ (by assumption)) | (with_reducible refine Below.alloc ?_ ?_ _) | (with_reducible refine Below.drew ?_) | (with_reducible refine below_drewN ?_ _) | (with_reducible refine Below.setCell ?_ ?_ _))) <;> (first | omega | (simp; done) | (simp; omega)))⟩
end Go.Proofs.Ytfpblgbokmpmjaa

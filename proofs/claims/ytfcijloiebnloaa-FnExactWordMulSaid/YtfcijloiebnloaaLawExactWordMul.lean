/- The walk of the law FnExactWordMul. -/
import Derived.Test.YtfcijloiebnloaaCircM
import Derived.Test.YtfcijloiebnloaaWordF
import Derived.Test.YtfcijloiebnloaaMarkW
import Derived.Test.YtfcijloiebnloaaWordMS
import Derived.Test.YtfcijloiebnloaaWordMI
import Derived.Test.YtfcijloiebnloaaShare
import Derived.Deep.RegionHeld3
namespace Go.Proofs.Ytfcijloiebnloaa
open Go.RowKit
set_option linter.unusedVariables false
set_option linter.unusedSimpArgs false

set_option maxRecDepth 20000 in
set_option maxHeartbeats 16000000 in
theorem walk_FnExactWordMul (w : World) (ns00 : List Int) (len00 : Nat) (ad00 : Option Addr) (cap00 : Nat) (e00 : ns00.length = len00 * 3) (hm00 : len00 ≤ maxLen) (hr00 : RdC w ad00 (I64 ns00)) (xs01 : List Int) (ad01 : Option Addr) (cap01 : Nat) (hm01 : xs01.length ≤ maxLen) (hr01 : RdC w ad01 (I64 xs01)) (xs1 : List Int) (ad1 : Option Addr) (cap1 : Nat) (hm1 : xs1.length ≤ maxLen) (hr1 : RdC w ad1 (I64 xs1)) (xs2 : List Int) (ad2 : Option Addr) (cap2 : Nat) (hm2 : xs2.length ≤ maxLen) (hr2 : RdC w ad2 (I64 xs2)) :
    Calls Try.prog 9 #[.agg #[.slice ad00 len00 cap00, .slice ad01 xs01.length cap01], .slice ad1 xs1.length cap1, .slice ad2 xs2.length cap2] w fun e w' => e = .returned (.bool true) ∧ Below w.heap.size w w' := by
  obtain ⟨gs, hl0, hx0⟩ := gt_of_ints len00 ns00 e00
  rw [← hx0] at hr00
  subst hl0
  clear e00 hx0 ns00
  have HR0 := Lib.hid hr00
  have HR1 := Lib.hid hr01
  clear hr00 hr01
  have HA1 := Lib.hid hr1
  clear hr1
  have HA2 := Lib.hid hr2
  clear hr2
  by_cases hs1 : xs1.length ≤ 1048576
  case neg =>
    have hs1' : (1048576 : Int) < (xs1.length : Int) := by omega
    unfold maxLen at *
    go_enter Try.func9, Try.ntmps9
    go_wp2_with fail
    go_ret
    exact ⟨rfl, (by (repeat (first | with_reducible exact Below.refl _ _ | (with_reducible refine bel_next ?_ ?_ (by assumption)) | (with_reducible refine Below.alloc ?_ ?_ _) | (with_reducible refine Below.drew ?_) | (with_reducible refine below_drewN ?_ _) | (with_reducible refine Below.setCell ?_ ?_ _))) <;> (first | omega | (simp; done) | (simp; omega)))⟩
  by_cases hs2 : xs2.length ≤ 1048576
  case neg =>
    have hs2' : (1048576 : Int) < (xs2.length : Int) := by omega
    unfold maxLen at *
    go_enter Try.func9, Try.ntmps9
    go_wp2_with fail
    go_ret
    exact ⟨rfl, (by (repeat (first | with_reducible exact Below.refl _ _ | (with_reducible refine bel_next ?_ ?_ (by assumption)) | (with_reducible refine Below.alloc ?_ ?_ _) | (with_reducible refine Below.drew ?_) | (with_reducible refine below_drewN ?_ _) | (with_reducible refine Below.setCell ?_ ?_ _))) <;> (first | omega | (simp; done) | (simp; omega)))⟩
  by_cases hsz : (gs.length : Int) + xs01.length ≤ 1048576
  case neg =>
    have e1 : (if (gs.length : Int) + xs01.length ≤ 1048576 then 1048576 - (gs.length : Int) - xs01.length else -1) = -1 := if_neg hsz
    have E1 := Lib.hid e1
    clear e1
    go_enter Try.func9, Try.ntmps9
    go_wp2_with fail
    refine (szCircuit_any gs.length xs01.length _ _ _ _ _ hm00 hm01 1048576 (by omega) (by omega)).mono ?_
    rintro e w1 ⟨rfl, hb1⟩
    rw [E1.out]
    go_wp2_with fail
    go_ret
    exact ⟨rfl, (by (repeat (first | with_reducible exact Below.refl _ _ | (with_reducible refine bel_next ?_ ?_ (by assumption)) | (with_reducible refine Below.alloc ?_ ?_ _) | (with_reducible refine Below.drew ?_) | (with_reducible refine below_drewN ?_ _) | (with_reducible refine Below.setCell ?_ ?_ _))) <;> (first | omega | (simp; done) | (simp; omega)))⟩
  have e1 : (if (gs.length : Int) + xs01.length ≤ 1048576 then 1048576 - (gs.length : Int) - xs01.length else -1) = 1048576 - gs.length - xs01.length := if_pos hsz
  obtain ⟨ll, hll⟩ : ∃ l : Int, l = 1048576 - (gs.length : Int) - xs01.length := ⟨_, rfl⟩
  have E1 := Lib.hid (e1.trans hll.symm)
  have hl0 : 0 ≤ ll := by omega
  have hl1 : ll ≤ 1048576 := by omega
  clear e1 hll
  have hm0 : gs.length ≤ 1048576 := by omega
  have hm1 : xs01.length ≤ 1048576 := by omega
  have hneg : decide (ll < 0) = false := decide_eq_false (by omega)
  obtain ⟨PG, hPG⟩ : ∃ x, x = (wP (askB gs xs01 xs1 xs2) (mulP xs1 xs2 gs) gs []).1 := ⟨_, rfl⟩
  obtain ⟨PW, hPW⟩ : ∃ x, x = (wP (askB gs xs01 xs1 xs2) (mulP xs1 xs2 gs) gs []).2 := ⟨_, rfl⟩
  have hF0 : PG.length ≤ 1048576 := by rw [hPG]; exact wP_len (fun hq => by have := (mulP_len xs1 xs2 gs).1; have := askB_room (by simpa using hq); omega) hm0
  have hF1 : PW.length ≤ 1048576 := by rw [hPW]; exact wP_len2 (fun _ => by have := (mulP_len xs1 xs2 gs).2; omega)
  have HPG := Lib.hid hPG
  have HPW := Lib.hid hPW
  clear hPG hPW
  go_enter Try.func9, Try.ntmps9
  go_wp2_with fail
  refine (szCircuit_any gs.length xs01.length _ _ _ _ _ hm00 hm01 1048576 (by omega) (by omega)).mono ?_
  rintro e w1 ⟨rfl, hb1⟩
  rw [E1.out]
  have z1 := hb1.size
  (try simp at z1)
  have y1_0 : w.heap.size < w1.heap.size := (by omega)
  have k1_0 := bel_keeps hb1 (b := w.heap.size) (o := 0) (v := .slice ad00 gs.length cap00) (by first | (go_simp; done) | assumption)
  have k1_1 := bel_keeps hb1 (b := w.heap.size) (o := 1) (v := .slice ad01 xs01.length cap01) (by first | (go_simp; done) | assumption)
  go_wp2_with fail
  refine (toCircuit_any gs xs01 _ _ _ _ _ hm0 hm1 (HR0.out.below (by (repeat (first | with_reducible exact Below.refl _ _ | (with_reducible refine bel_next ?_ ?_ (by assumption)) | (with_reducible refine Below.alloc ?_ ?_ _) | (with_reducible refine Below.drew ?_) | (with_reducible refine below_drewN ?_ _) | (with_reducible refine Below.setCell ?_ ?_ _))) <;> (first | omega | (simp; done) | (simp; omega)))) (HR1.out.below (by (repeat (first | with_reducible exact Below.refl _ _ | (with_reducible refine bel_next ?_ ?_ (by assumption)) | (with_reducible refine Below.alloc ?_ ?_ _) | (with_reducible refine Below.drew ?_) | (with_reducible refine below_drewN ?_ _) | (with_reducible refine Below.setCell ?_ ?_ _))) <;> (first | omega | (simp; done) | (simp; omega))))).mono ?_
  rintro e w2 ⟨g12, g22, rfl, o12, o22, lt2, hb2⟩
  have z2 := hb2.size
  (try simp at z2)
  have y2_0 : w.heap.size < w2.heap.size := (by omega)
  have k2_0 := bel_keeps hb2 (b := w.heap.size) (o := 0) (v := .slice ad00 gs.length cap00) (by first | (go_simp; done) | assumption)
  have k2_1 := bel_keeps hb2 (b := w.heap.size) (o := 1) (v := .slice ad01 xs01.length cap01) (by first | (go_simp; done) | assumption)
  clear k1_0 k1_1
  have i12 := o12.ins
  have i22 := o22.ins
  have ne2 : ∀ x y, (some ⟨g12, 0, none⟩ : Option Addr) = some x → (some ⟨g22, 0, none⟩ : Option Addr) = some y → x.block ≠ y.block := by (intro x y hx hy; obtain rfl := Option.some.inj hx; obtain rfl := Option.some.inj hy; simp; omega)
  go_wp2_with fail
  refine (toIntS_own xs1 _ _ _ hs1 (HA1.out.below (by (repeat (first | with_reducible exact Below.refl _ _ | (with_reducible refine bel_next ?_ ?_ (by assumption)) | (with_reducible refine Below.alloc ?_ ?_ _) | (with_reducible refine Below.drew ?_) | (with_reducible refine below_drewN ?_ _) | (with_reducible refine Below.setCell ?_ ?_ _))) <;> (first | omega | (simp; done) | (simp; omega))))).mono ?_
  rintro e w3 ⟨gi3, rfl, ho3, lo3, hi3, hb3⟩
  have z3 := hb3.size
  (try simp at z3)
  have y3_0 : w.heap.size < w3.heap.size := (by omega)
  have k3_0 := bel_keeps hb3 (b := w.heap.size) (o := 0) (v := .slice ad00 gs.length cap00) (by first | (go_simp; done) | assumption)
  have k3_1 := bel_keeps hb3 (b := w.heap.size) (o := 1) (v := .slice ad01 xs01.length cap01) (by first | (go_simp; done) | assumption)
  clear k2_0 k2_1
  have iz3 := ho3.ins
  go_wp2_with fail
  refine (toIntS_own xs2 _ _ _ hs2 (HA2.out.below (by (repeat (first | with_reducible exact Below.refl _ _ | (with_reducible refine bel_next ?_ ?_ (by assumption)) | (with_reducible refine Below.alloc ?_ ?_ _) | (with_reducible refine Below.drew ?_) | (with_reducible refine below_drewN ?_ _) | (with_reducible refine Below.setCell ?_ ?_ _))) <;> (first | omega | (simp; done) | (simp; omega))))).mono ?_
  rintro e w4 ⟨gi4, rfl, ho4, lo4, hi4, hb4⟩
  have z4 := hb4.size
  (try simp at z4)
  have y4_0 : w.heap.size < w4.heap.size := (by omega)
  have k4_0 := bel_keeps hb4 (b := w.heap.size) (o := 0) (v := .slice ad00 gs.length cap00) (by first | (go_simp; done) | assumption)
  have k4_1 := bel_keeps hb4 (b := w.heap.size) (o := 1) (v := .slice ad01 xs01.length cap01) (by first | (go_simp; done) | assumption)
  clear k3_0 k3_1
  have iz4 := ho4.ins
  go_wp2_with fail
  have hcc := sWordMul_any gs xs01 (some ⟨g12, 0, none⟩) (some ⟨g22, 0, none⟩) gs.length xs01.length w4 hm0 hm1 (o12.keep (fun a ha => (by have hh := i12 a ha; exact (by (repeat (first | with_reducible exact Kp.refl _ _ | (with_reducible refine Kp.rng ?_ (by assumption) ?_) | (with_reducible refine Kp.below ?_ (by assumption)) | (with_reducible refine Kp.grown ?_ (by assumption) ?_) | (with_reducible refine Kp.alloc ?_ _) | (with_reducible refine Kp.drew ?_) | (with_reducible refine Kp.drewN ?_ _) | (with_reducible refine Kp.setCell ?_ _ ?_))) <;> (first | omega | (simp; done) | (simp; omega)))))).rd (o22.keep (fun a ha => (by have hh := i22 a ha; exact (by (repeat (first | with_reducible exact Kp.refl _ _ | (with_reducible refine Kp.rng ?_ (by assumption) ?_) | (with_reducible refine Kp.below ?_ (by assumption)) | (with_reducible refine Kp.grown ?_ (by assumption) ?_) | (with_reducible refine Kp.alloc ?_ _) | (with_reducible refine Kp.drew ?_) | (with_reducible refine Kp.drewN ?_ _) | (with_reducible refine Kp.setCell ?_ _ ?_))) <;> (first | omega | (simp; done) | (simp; omega)))))).rd xs1 xs1.length (some ⟨gi3, 0, none⟩) xs1.length rfl hs1 (ho3.keep (fun a ha => (by have hh := iz3 a ha; exact (by (repeat (first | with_reducible exact Kp.refl _ _ | (with_reducible refine Kp.rng ?_ (by assumption) ?_) | (with_reducible refine Kp.below ?_ (by assumption)) | (with_reducible refine Kp.grown ?_ (by assumption) ?_) | (with_reducible refine Kp.alloc ?_ _) | (with_reducible refine Kp.drew ?_) | (with_reducible refine Kp.drewN ?_ _) | (with_reducible refine Kp.setCell ?_ _ ?_))) <;> (first | omega | (simp; done) | (simp; omega)))))).rd xs2 xs2.length (some ⟨gi4, 0, none⟩) xs2.length rfl hs2 (ho4.keep (fun a ha => (by have hh := iz4 a ha; exact (by (repeat (first | with_reducible exact Kp.refl _ _ | (with_reducible refine Kp.rng ?_ (by assumption) ?_) | (with_reducible refine Kp.below ?_ (by assumption)) | (with_reducible refine Kp.grown ?_ (by assumption) ?_) | (with_reducible refine Kp.alloc ?_ _) | (with_reducible refine Kp.drew ?_) | (with_reducible refine Kp.drewN ?_ _) | (with_reducible refine Kp.setCell ?_ _ ?_))) <;> (first | omega | (simp; done) | (simp; omega)))))).rd
  rw [← HPG.out, ← HPW.out] at hcc
  refine hcc.mono ?_
  clear hcc
  rintro e w5 ⟨a5, c5, b5, d5, x5, y5, rfl, oc5, uc5, ne5, v5, na5, nb5, hb5⟩
  have z5 := hb5.size
  (try simp at z5)
  have y5_0 : w.heap.size < w5.heap.size := (by omega)
  have k5_0 := bel_keeps hb5 (b := w.heap.size) (o := 0) (v := .slice ad00 gs.length cap00) (by first | (go_simp; done) | assumption)
  have k5_1 := bel_keeps hb5 (b := w.heap.size) (o := 1) (v := .slice ad01 xs01.length cap01) (by first | (go_simp; done) | assumption)
  clear k4_0 k4_1
  have ic5 := oc5.ins
  have jc5 := uc5.ins
  have ik5 := v5.ins
  go_wp2_with fail
  obtain ⟨w6, hw6⟩ : ∃ W, W = w5.alloc (.cells #[.slice a5 PG.length c5, .slice b5 xs01.length d5] 29) := ⟨_, rfl⟩
  rw [← hw6]
  have hb6 : Below w5.heap.size w5 w6 := by rw [hw6]; exact (Below.refl _ _).alloc (Nat.le_refl _) _
  have x6 : w5.heap.size < w6.heap.size := by rw [hw6]; simp
  have z6 := hb6.size
  (try simp at z6)
  have y6_0 : w.heap.size < w6.heap.size := (by omega)
  have k6_0 := bel_keeps hb6 (b := w.heap.size) (o := 0) (v := .slice ad00 gs.length cap00) (by first | (go_simp; done) | assumption)
  have k6_1 := bel_keeps hb6 (b := w.heap.size) (o := 1) (v := .slice ad01 xs01.length cap01) (by first | (go_simp; done) | assumption)
  clear k5_0 k5_1
  have kb6_0 : w6.cell? ⟨w5.heap.size, 0, none⟩ = some (.slice a5 PG.length c5) := by rw [hw6]; go_simp
  have kb6_1 : w6.cell? ⟨w5.heap.size, 1, none⟩ = some (.slice b5 xs01.length d5) := by rw [hw6]; go_simp
  clear hw6
  go_wp2_with fail
  refine (toCircuit_any gs xs01 _ _ _ _ _ hm0 hm1 (HR0.out.below (by (repeat (first | with_reducible exact Below.refl _ _ | (with_reducible refine bel_next ?_ ?_ (by assumption)) | (with_reducible refine Below.alloc ?_ ?_ _) | (with_reducible refine Below.drew ?_) | (with_reducible refine below_drewN ?_ _) | (with_reducible refine Below.setCell ?_ ?_ _))) <;> (first | omega | (simp; done) | (simp; omega)))) (HR1.out.below (by (repeat (first | with_reducible exact Below.refl _ _ | (with_reducible refine bel_next ?_ ?_ (by assumption)) | (with_reducible refine Below.alloc ?_ ?_ _) | (with_reducible refine Below.drew ?_) | (with_reducible refine below_drewN ?_ _) | (with_reducible refine Below.setCell ?_ ?_ _))) <;> (first | omega | (simp; done) | (simp; omega))))).mono ?_
  rintro e w7 ⟨g17, g27, rfl, o17, o27, lt7, hb7⟩
  have z7 := hb7.size
  (try simp at z7)
  have y7_0 : w.heap.size < w7.heap.size := (by omega)
  have y7_1 : w5.heap.size < w7.heap.size := (by omega)
  have k7_0 := bel_keeps hb7 (b := w.heap.size) (o := 0) (v := .slice ad00 gs.length cap00) (by first | (go_simp; done) | assumption)
  have k7_1 := bel_keeps hb7 (b := w.heap.size) (o := 1) (v := .slice ad01 xs01.length cap01) (by first | (go_simp; done) | assumption)
  have k7_2 := bel_keeps hb7 (b := w5.heap.size) (o := 0) (v := .slice a5 PG.length c5) (by first | (go_simp; done) | assumption)
  have k7_3 := bel_keeps hb7 (b := w5.heap.size) (o := 1) (v := .slice b5 xs01.length d5) (by first | (go_simp; done) | assumption)
  clear k6_0 k6_1 kb6_0 kb6_1
  have i17 := o17.ins
  have i27 := o27.ins
  have ne7 : ∀ x y, (some ⟨g17, 0, none⟩ : Option Addr) = some x → (some ⟨g27, 0, none⟩ : Option Addr) = some y → x.block ≠ y.block := by (intro x y hx hy; obtain rfl := Option.some.inj hx; obtain rfl := Option.some.inj hy; simp; omega)
  go_wp2_with fail
  obtain ⟨w8, hw8⟩ : ∃ W, W = w7.alloc (.cells #[.slice (some ⟨g17, 0, none⟩) gs.length gs.length, .slice (some ⟨g27, 0, none⟩) xs01.length xs01.length] 29) := ⟨_, rfl⟩
  rw [← hw8]
  have hb8 : Below w7.heap.size w7 w8 := by rw [hw8]; exact (Below.refl _ _).alloc (Nat.le_refl _) _
  have x8 : w7.heap.size < w8.heap.size := by rw [hw8]; simp
  have z8 := hb8.size
  (try simp at z8)
  have y8_0 : w.heap.size < w8.heap.size := (by omega)
  have y8_1 : w5.heap.size < w8.heap.size := (by omega)
  have k8_0 := bel_keeps hb8 (b := w.heap.size) (o := 0) (v := .slice ad00 gs.length cap00) (by first | (go_simp; done) | assumption)
  have k8_1 := bel_keeps hb8 (b := w.heap.size) (o := 1) (v := .slice ad01 xs01.length cap01) (by first | (go_simp; done) | assumption)
  have k8_2 := bel_keeps hb8 (b := w5.heap.size) (o := 0) (v := .slice a5 PG.length c5) (by first | (go_simp; done) | assumption)
  have k8_3 := bel_keeps hb8 (b := w5.heap.size) (o := 1) (v := .slice b5 xs01.length d5) (by first | (go_simp; done) | assumption)
  clear k7_0 k7_1 k7_2 k7_3
  have kb8_0 : w8.cell? ⟨w7.heap.size, 0, none⟩ = some (.slice (some ⟨g17, 0, none⟩) gs.length gs.length) := by rw [hw8]; go_simp
  have kb8_1 : w8.cell? ⟨w7.heap.size, 1, none⟩ = some (.slice (some ⟨g27, 0, none⟩) xs01.length xs01.length) := by rw [hw8]; go_simp
  clear hw8
  go_wp2_with fail
  refine (toIntS_own xs1 _ _ _ hs1 (HA1.out.below (by (repeat (first | with_reducible exact Below.refl _ _ | (with_reducible refine bel_next ?_ ?_ (by assumption)) | (with_reducible refine Below.alloc ?_ ?_ _) | (with_reducible refine Below.drew ?_) | (with_reducible refine below_drewN ?_ _) | (with_reducible refine Below.setCell ?_ ?_ _))) <;> (first | omega | (simp; done) | (simp; omega))))).mono ?_
  rintro e w9 ⟨gi9, rfl, ho9, lo9, hi9, hb9⟩
  have z9 := hb9.size
  (try simp at z9)
  have y9_0 : w.heap.size < w9.heap.size := (by omega)
  have y9_1 : w5.heap.size < w9.heap.size := (by omega)
  have y9_2 : w7.heap.size < w9.heap.size := (by omega)
  have k9_0 := bel_keeps hb9 (b := w.heap.size) (o := 0) (v := .slice ad00 gs.length cap00) (by first | (go_simp; done) | assumption)
  have k9_1 := bel_keeps hb9 (b := w.heap.size) (o := 1) (v := .slice ad01 xs01.length cap01) (by first | (go_simp; done) | assumption)
  have k9_2 := bel_keeps hb9 (b := w5.heap.size) (o := 0) (v := .slice a5 PG.length c5) (by first | (go_simp; done) | assumption)
  have k9_3 := bel_keeps hb9 (b := w5.heap.size) (o := 1) (v := .slice b5 xs01.length d5) (by first | (go_simp; done) | assumption)
  have k9_4 := bel_keeps hb9 (b := w7.heap.size) (o := 0) (v := .slice (some ⟨g17, 0, none⟩) gs.length gs.length) (by first | (go_simp; done) | assumption)
  have k9_5 := bel_keeps hb9 (b := w7.heap.size) (o := 1) (v := .slice (some ⟨g27, 0, none⟩) xs01.length xs01.length) (by first | (go_simp; done) | assumption)
  clear k8_0 k8_1 k8_2 k8_3 kb8_0 kb8_1
  have iz9 := ho9.ins
  go_wp2_with fail
  refine (toIntS_own xs2 _ _ _ hs2 (HA2.out.below (by (repeat (first | with_reducible exact Below.refl _ _ | (with_reducible refine bel_next ?_ ?_ (by assumption)) | (with_reducible refine Below.alloc ?_ ?_ _) | (with_reducible refine Below.drew ?_) | (with_reducible refine below_drewN ?_ _) | (with_reducible refine Below.setCell ?_ ?_ _))) <;> (first | omega | (simp; done) | (simp; omega))))).mono ?_
  rintro e w10 ⟨gi10, rfl, ho10, lo10, hi10, hb10⟩
  have z10 := hb10.size
  (try simp at z10)
  have y10_0 : w.heap.size < w10.heap.size := (by omega)
  have y10_1 : w5.heap.size < w10.heap.size := (by omega)
  have y10_2 : w7.heap.size < w10.heap.size := (by omega)
  have k10_0 := bel_keeps hb10 (b := w.heap.size) (o := 0) (v := .slice ad00 gs.length cap00) (by first | (go_simp; done) | assumption)
  have k10_1 := bel_keeps hb10 (b := w.heap.size) (o := 1) (v := .slice ad01 xs01.length cap01) (by first | (go_simp; done) | assumption)
  have k10_2 := bel_keeps hb10 (b := w5.heap.size) (o := 0) (v := .slice a5 PG.length c5) (by first | (go_simp; done) | assumption)
  have k10_3 := bel_keeps hb10 (b := w5.heap.size) (o := 1) (v := .slice b5 xs01.length d5) (by first | (go_simp; done) | assumption)
  have k10_4 := bel_keeps hb10 (b := w7.heap.size) (o := 0) (v := .slice (some ⟨g17, 0, none⟩) gs.length gs.length) (by first | (go_simp; done) | assumption)
  have k10_5 := bel_keeps hb10 (b := w7.heap.size) (o := 1) (v := .slice (some ⟨g27, 0, none⟩) xs01.length xs01.length) (by first | (go_simp; done) | assumption)
  clear k9_0 k9_1 k9_2 k9_3 k9_4 k9_5
  have iz10 := ho10.ins
  go_wp2_with fail
  have hcc := iWordMul_any gs xs01 (some ⟨g17, 0, none⟩) (some ⟨g27, 0, none⟩) gs.length xs01.length w10 hm0 hm1 (o17.keep (fun a ha => (by have hh := i17 a ha; exact (by (repeat (first | with_reducible exact Kp.refl _ _ | (with_reducible refine Kp.rng ?_ (by assumption) ?_) | (with_reducible refine Kp.below ?_ (by assumption)) | (with_reducible refine Kp.grown ?_ (by assumption) ?_) | (with_reducible refine Kp.alloc ?_ _) | (with_reducible refine Kp.drew ?_) | (with_reducible refine Kp.drewN ?_ _) | (with_reducible refine Kp.setCell ?_ _ ?_))) <;> (first | omega | (simp; done) | (simp; omega)))))).rd (o27.keep (fun a ha => (by have hh := i27 a ha; exact (by (repeat (first | with_reducible exact Kp.refl _ _ | (with_reducible refine Kp.rng ?_ (by assumption) ?_) | (with_reducible refine Kp.below ?_ (by assumption)) | (with_reducible refine Kp.grown ?_ (by assumption) ?_) | (with_reducible refine Kp.alloc ?_ _) | (with_reducible refine Kp.drew ?_) | (with_reducible refine Kp.drewN ?_ _) | (with_reducible refine Kp.setCell ?_ _ ?_))) <;> (first | omega | (simp; done) | (simp; omega)))))).rd xs1 xs1.length (some ⟨gi9, 0, none⟩) xs1.length rfl hs1 (ho9.keep (fun a ha => (by have hh := iz9 a ha; exact (by (repeat (first | with_reducible exact Kp.refl _ _ | (with_reducible refine Kp.rng ?_ (by assumption) ?_) | (with_reducible refine Kp.below ?_ (by assumption)) | (with_reducible refine Kp.grown ?_ (by assumption) ?_) | (with_reducible refine Kp.alloc ?_ _) | (with_reducible refine Kp.drew ?_) | (with_reducible refine Kp.drewN ?_ _) | (with_reducible refine Kp.setCell ?_ _ ?_))) <;> (first | omega | (simp; done) | (simp; omega)))))).rd xs2 xs2.length (some ⟨gi10, 0, none⟩) xs2.length rfl hs2 (ho10.keep (fun a ha => (by have hh := iz10 a ha; exact (by (repeat (first | with_reducible exact Kp.refl _ _ | (with_reducible refine Kp.rng ?_ (by assumption) ?_) | (with_reducible refine Kp.below ?_ (by assumption)) | (with_reducible refine Kp.grown ?_ (by assumption) ?_) | (with_reducible refine Kp.alloc ?_ _) | (with_reducible refine Kp.drew ?_) | (with_reducible refine Kp.drewN ?_ _) | (with_reducible refine Kp.setCell ?_ _ ?_))) <;> (first | omega | (simp; done) | (simp; omega)))))).rd
  rw [← HPG.out, ← HPW.out] at hcc
  refine hcc.mono ?_
  clear hcc
  rintro e w11 ⟨a11, c11, b11, d11, x11, y11, rfl, oc11, uc11, ne11, v11, na11, nb11, hb11⟩
  have z11 := hb11.size
  (try simp at z11)
  have y11_0 : w.heap.size < w11.heap.size := (by omega)
  have y11_1 : w5.heap.size < w11.heap.size := (by omega)
  have y11_2 : w7.heap.size < w11.heap.size := (by omega)
  have k11_0 := bel_keeps hb11 (b := w.heap.size) (o := 0) (v := .slice ad00 gs.length cap00) (by first | (go_simp; done) | assumption)
  have k11_1 := bel_keeps hb11 (b := w.heap.size) (o := 1) (v := .slice ad01 xs01.length cap01) (by first | (go_simp; done) | assumption)
  have k11_2 := bel_keeps hb11 (b := w5.heap.size) (o := 0) (v := .slice a5 PG.length c5) (by first | (go_simp; done) | assumption)
  have k11_3 := bel_keeps hb11 (b := w5.heap.size) (o := 1) (v := .slice b5 xs01.length d5) (by first | (go_simp; done) | assumption)
  have k11_4 := bel_keeps hb11 (b := w7.heap.size) (o := 0) (v := .slice (some ⟨g17, 0, none⟩) gs.length gs.length) (by first | (go_simp; done) | assumption)
  have k11_5 := bel_keeps hb11 (b := w7.heap.size) (o := 1) (v := .slice (some ⟨g27, 0, none⟩) xs01.length xs01.length) (by first | (go_simp; done) | assumption)
  clear k10_0 k10_1 k10_2 k10_3 k10_4 k10_5
  have ic11 := oc11.ins
  have jc11 := uc11.ins
  have ik11 := v11.ins
  go_wp2_with fail
  obtain ⟨w12, hw12⟩ : ∃ W, W = w11.alloc (.cells #[.slice a11 PG.length c11, .slice b11 xs01.length d11] 29) := ⟨_, rfl⟩
  rw [← hw12]
  have hb12 : Below w11.heap.size w11 w12 := by rw [hw12]; exact (Below.refl _ _).alloc (Nat.le_refl _) _
  have x12 : w11.heap.size < w12.heap.size := by rw [hw12]; simp
  have z12 := hb12.size
  (try simp at z12)
  have y12_0 : w.heap.size < w12.heap.size := (by omega)
  have y12_1 : w5.heap.size < w12.heap.size := (by omega)
  have y12_2 : w7.heap.size < w12.heap.size := (by omega)
  have k12_0 := bel_keeps hb12 (b := w.heap.size) (o := 0) (v := .slice ad00 gs.length cap00) (by first | (go_simp; done) | assumption)
  have k12_1 := bel_keeps hb12 (b := w.heap.size) (o := 1) (v := .slice ad01 xs01.length cap01) (by first | (go_simp; done) | assumption)
  have k12_2 := bel_keeps hb12 (b := w5.heap.size) (o := 0) (v := .slice a5 PG.length c5) (by first | (go_simp; done) | assumption)
  have k12_3 := bel_keeps hb12 (b := w5.heap.size) (o := 1) (v := .slice b5 xs01.length d5) (by first | (go_simp; done) | assumption)
  have k12_4 := bel_keeps hb12 (b := w7.heap.size) (o := 0) (v := .slice (some ⟨g17, 0, none⟩) gs.length gs.length) (by first | (go_simp; done) | assumption)
  have k12_5 := bel_keeps hb12 (b := w7.heap.size) (o := 1) (v := .slice (some ⟨g27, 0, none⟩) xs01.length xs01.length) (by first | (go_simp; done) | assumption)
  clear k11_0 k11_1 k11_2 k11_3 k11_4 k11_5
  have kb12_0 : w12.cell? ⟨w11.heap.size, 0, none⟩ = some (.slice a11 PG.length c11) := by rw [hw12]; go_simp
  have kb12_1 : w12.cell? ⟨w11.heap.size, 1, none⟩ = some (.slice b11 xs01.length d11) := by rw [hw12]; go_simp
  clear hw12
  go_wp2_with fail
  refine (eqCircuit_same PG xs01 _ _ _ _ _ _ _ _ _ hF0 hm1 (oc11.keep (fun a ha => (by have hh := ic11 a ha; exact (by (repeat (first | with_reducible exact Kp.refl _ _ | (with_reducible refine Kp.rng ?_ (by assumption) ?_) | (with_reducible refine Kp.below ?_ (by assumption)) | (with_reducible refine Kp.grown ?_ (by assumption) ?_) | (with_reducible refine Kp.alloc ?_ _) | (with_reducible refine Kp.drew ?_) | (with_reducible refine Kp.drewN ?_ _) | (with_reducible refine Kp.setCell ?_ _ ?_))) <;> (first | omega | (simp; done) | (simp; omega)))))).rd (uc11.keep (fun a ha => (by have hh := jc11 a ha; exact (by (repeat (first | with_reducible exact Kp.refl _ _ | (with_reducible refine Kp.rng ?_ (by assumption) ?_) | (with_reducible refine Kp.below ?_ (by assumption)) | (with_reducible refine Kp.grown ?_ (by assumption) ?_) | (with_reducible refine Kp.alloc ?_ _) | (with_reducible refine Kp.drew ?_) | (with_reducible refine Kp.drewN ?_ _) | (with_reducible refine Kp.setCell ?_ _ ?_))) <;> (first | omega | (simp; done) | (simp; omega)))))).rd (oc5.keep (fun a ha => (by have hh := ic5 a ha; exact (by (repeat (first | with_reducible exact Kp.refl _ _ | (with_reducible refine Kp.rng ?_ (by assumption) ?_) | (with_reducible refine Kp.below ?_ (by assumption)) | (with_reducible refine Kp.grown ?_ (by assumption) ?_) | (with_reducible refine Kp.alloc ?_ _) | (with_reducible refine Kp.drew ?_) | (with_reducible refine Kp.drewN ?_ _) | (with_reducible refine Kp.setCell ?_ _ ?_))) <;> (first | omega | (simp; done) | (simp; omega)))))).rd (uc5.keep (fun a ha => (by have hh := jc5 a ha; exact (by (repeat (first | with_reducible exact Kp.refl _ _ | (with_reducible refine Kp.rng ?_ (by assumption) ?_) | (with_reducible refine Kp.below ?_ (by assumption)) | (with_reducible refine Kp.grown ?_ (by assumption) ?_) | (with_reducible refine Kp.alloc ?_ _) | (with_reducible refine Kp.drew ?_) | (with_reducible refine Kp.drewN ?_ _) | (with_reducible refine Kp.setCell ?_ _ ?_))) <;> (first | omega | (simp; done) | (simp; omega)))))).rd).mono ?_
  rintro e w13 ⟨rfl, hb13⟩
  have z13 := hb13.size
  (try simp at z13)
  have y13_0 : w.heap.size < w13.heap.size := (by omega)
  have y13_1 : w5.heap.size < w13.heap.size := (by omega)
  have y13_2 : w7.heap.size < w13.heap.size := (by omega)
  have y13_3 : w11.heap.size < w13.heap.size := (by omega)
  have k13_0 := bel_keeps hb13 (b := w.heap.size) (o := 0) (v := .slice ad00 gs.length cap00) (by first | (go_simp; done) | assumption)
  have k13_1 := bel_keeps hb13 (b := w.heap.size) (o := 1) (v := .slice ad01 xs01.length cap01) (by first | (go_simp; done) | assumption)
  have k13_2 := bel_keeps hb13 (b := w5.heap.size) (o := 0) (v := .slice a5 PG.length c5) (by first | (go_simp; done) | assumption)
  have k13_3 := bel_keeps hb13 (b := w5.heap.size) (o := 1) (v := .slice b5 xs01.length d5) (by first | (go_simp; done) | assumption)
  have k13_4 := bel_keeps hb13 (b := w7.heap.size) (o := 0) (v := .slice (some ⟨g17, 0, none⟩) gs.length gs.length) (by first | (go_simp; done) | assumption)
  have k13_5 := bel_keeps hb13 (b := w7.heap.size) (o := 1) (v := .slice (some ⟨g27, 0, none⟩) xs01.length xs01.length) (by first | (go_simp; done) | assumption)
  have k13_6 := bel_keeps hb13 (b := w11.heap.size) (o := 0) (v := .slice a11 PG.length c11) (by first | (go_simp; done) | assumption)
  have k13_7 := bel_keeps hb13 (b := w11.heap.size) (o := 1) (v := .slice b11 xs01.length d11) (by first | (go_simp; done) | assumption)
  clear k12_0 k12_1 k12_2 k12_3 k12_4 k12_5 kb12_0 kb12_1
  go_wp2_with fail
  refine (eqIntS_same PW _ _ _ _ _ hF1 (v11.keep (fun a ha => (by have hh := ik11 a ha; exact (by (repeat (first | with_reducible exact Kp.refl _ _ | (with_reducible refine Kp.rng ?_ (by assumption) ?_) | (with_reducible refine Kp.below ?_ (by assumption)) | (with_reducible refine Kp.grown ?_ (by assumption) ?_) | (with_reducible refine Kp.alloc ?_ _) | (with_reducible refine Kp.drew ?_) | (with_reducible refine Kp.drewN ?_ _) | (with_reducible refine Kp.setCell ?_ _ ?_))) <;> (first | omega | (simp; done) | (simp; omega)))))).rd (v5.keep (fun a ha => (by have hh := ik5 a ha; exact (by (repeat (first | with_reducible exact Kp.refl _ _ | (with_reducible refine Kp.rng ?_ (by assumption) ?_) | (with_reducible refine Kp.below ?_ (by assumption)) | (with_reducible refine Kp.grown ?_ (by assumption) ?_) | (with_reducible refine Kp.alloc ?_ _) | (with_reducible refine Kp.drew ?_) | (with_reducible refine Kp.drewN ?_ _) | (with_reducible refine Kp.setCell ?_ _ ?_))) <;> (first | omega | (simp; done) | (simp; omega)))))).rd).mono ?_
  rintro e _ ⟨rfl, m14, rfl⟩
  obtain ⟨w14, hw14⟩ : ∃ W, W = w13.drewN m14 := ⟨_, rfl⟩
  rw [← hw14]
  have hb14 : Below w13.heap.size w13 w14 := by rw [hw14]; exact below_drewN (Below.refl _ _) _
  clear hw14
  have z14 := hb14.size
  (try simp at z14)
  have y14_0 : w.heap.size < w14.heap.size := (by omega)
  have y14_1 : w5.heap.size < w14.heap.size := (by omega)
  have y14_2 : w7.heap.size < w14.heap.size := (by omega)
  have y14_3 : w11.heap.size < w14.heap.size := (by omega)
  have k14_0 := bel_keeps hb14 (b := w.heap.size) (o := 0) (v := .slice ad00 gs.length cap00) (by first | (go_simp; done) | assumption)
  have k14_1 := bel_keeps hb14 (b := w.heap.size) (o := 1) (v := .slice ad01 xs01.length cap01) (by first | (go_simp; done) | assumption)
  have k14_2 := bel_keeps hb14 (b := w5.heap.size) (o := 0) (v := .slice a5 PG.length c5) (by first | (go_simp; done) | assumption)
  have k14_3 := bel_keeps hb14 (b := w5.heap.size) (o := 1) (v := .slice b5 xs01.length d5) (by first | (go_simp; done) | assumption)
  have k14_4 := bel_keeps hb14 (b := w7.heap.size) (o := 0) (v := .slice (some ⟨g17, 0, none⟩) gs.length gs.length) (by first | (go_simp; done) | assumption)
  have k14_5 := bel_keeps hb14 (b := w7.heap.size) (o := 1) (v := .slice (some ⟨g27, 0, none⟩) xs01.length xs01.length) (by first | (go_simp; done) | assumption)
  have k14_6 := bel_keeps hb14 (b := w11.heap.size) (o := 0) (v := .slice a11 PG.length c11) (by first | (go_simp; done) | assumption)
  have k14_7 := bel_keeps hb14 (b := w11.heap.size) (o := 1) (v := .slice b11 xs01.length d11) (by first | (go_simp; done) | assumption)
  clear k13_0 k13_1 k13_2 k13_3 k13_4 k13_5 k13_6 k13_7
  go_wp2_with fail
  apply wp_share2 (F := fun (W : World) (p115 : Nat) (p215 : Nat) => Below w14.heap.size w14 W ∧ True)
  case h1 =>
    go_region_held3 (fun w' => w'.cell? ⟨w7.heap.size, 0, none⟩ = some (.slice (some ⟨g17, 0, none⟩) gs.length gs.length) ∧ w'.cell? ⟨w7.heap.size, 1, none⟩ = some (.slice (some ⟨g27, 0, none⟩) xs01.length xs01.length) ∧ w'.cell? ⟨w.heap.size, 0, none⟩ = some (.slice ad00 gs.length cap00) ∧ w'.cell? ⟨w.heap.size, 1, none⟩ = some (.slice ad01 xs01.length cap01))
      (first | go_keep)
      (first | (go_at_call 14; refine (toCircuit_any gs xs01 _ _ _ _ _ hm0 hm1 (HR0.out.below (by (repeat (first | with_reducible exact Below.refl _ _ | (with_reducible refine bel_next ?_ ?_ (by assumption)) | (with_reducible refine Below.alloc ?_ ?_ _) | (with_reducible refine Below.drew ?_) | (with_reducible refine below_drewN ?_ _) | (with_reducible refine Below.setCell ?_ ?_ _))) <;> (first | omega | (simp; done) | (simp; omega)))) (HR1.out.below (by (repeat (first | with_reducible exact Below.refl _ _ | (with_reducible refine bel_next ?_ ?_ (by assumption)) | (with_reducible refine Below.alloc ?_ ?_ _) | (with_reducible refine Below.drew ?_) | (with_reducible refine below_drewN ?_ _) | (with_reducible refine Below.setCell ?_ ?_ _))) <;> (first | omega | (simp; done) | (simp; omega))))).mono ?_; rintro e v1 ⟨p115, p215, rfl, hp1, hp2, hp3, hv1⟩; have zv1 := hv1.size; (try simp at zv1); have yv1_0 : w7.heap.size < v1.heap.size := (by omega); have nv1_0 : w7.heap.size ≠ v1.heap.size := (by omega); have mv1_0 : v1.heap.size ≠ w7.heap.size := (by omega); have yv1_1 : w.heap.size < v1.heap.size := (by omega); have nv1_1 : w.heap.size ≠ v1.heap.size := (by omega); have mv1_1 : v1.heap.size ≠ w.heap.size := (by omega); have kv1_0 := bel_keeps hv1 (b := w7.heap.size) (o := 0) (v := .slice (some ⟨g17, 0, none⟩) gs.length gs.length) (by first | (go_simp; done) | assumption); have kv1_1 := bel_keeps hv1 (b := w7.heap.size) (o := 1) (v := .slice (some ⟨g27, 0, none⟩) xs01.length xs01.length) (by first | (go_simp; done) | assumption); have kv1_2 := bel_keeps hv1 (b := w.heap.size) (o := 0) (v := .slice ad00 gs.length cap00) (by first | (go_simp; done) | assumption); have kv1_3 := bel_keeps hv1 (b := w.heap.size) (o := 1) (v := .slice ad01 xs01.length cap01) (by first | (go_simp; done) | assumption)) | (go_at_call 16; refine (eqCircuit_same gs xs01 _ _ _ _ _ _ _ _ _ hm0 hm1 (o17.keep (fun a ha => (by have hh := i17 a ha; exact (by (repeat (first | with_reducible exact Kp.refl _ _ | (with_reducible refine Kp.rng ?_ (by assumption) ?_) | (with_reducible refine Kp.below ?_ (by assumption)) | (with_reducible refine Kp.grown ?_ (by assumption) ?_) | (with_reducible refine Kp.alloc ?_ _) | (with_reducible refine Kp.drew ?_) | (with_reducible refine Kp.drewN ?_ _) | (with_reducible refine Kp.setCell ?_ _ ?_))) <;> (first | omega | (simp; done) | (simp; omega)))))).rd (o27.keep (fun a ha => (by have hh := i27 a ha; exact (by (repeat (first | with_reducible exact Kp.refl _ _ | (with_reducible refine Kp.rng ?_ (by assumption) ?_) | (with_reducible refine Kp.below ?_ (by assumption)) | (with_reducible refine Kp.grown ?_ (by assumption) ?_) | (with_reducible refine Kp.alloc ?_ _) | (with_reducible refine Kp.drew ?_) | (with_reducible refine Kp.drewN ?_ _) | (with_reducible refine Kp.setCell ?_ _ ?_))) <;> (first | omega | (simp; done) | (simp; omega)))))).rd (hp1.rd.below (by (repeat (first | with_reducible exact Below.refl _ _ | (with_reducible refine bel_next ?_ ?_ (by assumption)) | (with_reducible refine Below.alloc ?_ ?_ _) | (with_reducible refine Below.drew ?_) | (with_reducible refine below_drewN ?_ _) | (with_reducible refine Below.setCell ?_ ?_ _))) <;> (first | omega | (simp; done) | (simp; omega)))) (hp2.rd.below (by (repeat (first | with_reducible exact Below.refl _ _ | (with_reducible refine bel_next ?_ ?_ (by assumption)) | (with_reducible refine Below.alloc ?_ ?_ _) | (with_reducible refine Below.drew ?_) | (with_reducible refine below_drewN ?_ _) | (with_reducible refine Below.setCell ?_ ?_ _))) <;> (first | omega | (simp; done) | (simp; omega))))).mono ?_; rintro e v2 ⟨rfl, hv2⟩; have zv2 := hv2.size; (try simp at zv2); have yv2_0 : w7.heap.size < v2.heap.size := (by omega); have nv2_0 : w7.heap.size ≠ v2.heap.size := (by omega); have mv2_0 : v2.heap.size ≠ w7.heap.size := (by omega); have yv2_1 : w.heap.size < v2.heap.size := (by omega); have nv2_1 : w.heap.size ≠ v2.heap.size := (by omega); have mv2_1 : v2.heap.size ≠ w.heap.size := (by omega); have kv2_0 := bel_keeps hv2 (b := w7.heap.size) (o := 0) (v := .slice (some ⟨g17, 0, none⟩) gs.length gs.length) (by first | (go_simp; done) | assumption); have kv2_1 := bel_keeps hv2 (b := w7.heap.size) (o := 1) (v := .slice (some ⟨g27, 0, none⟩) xs01.length xs01.length) (by first | (go_simp; done) | assumption); have kv2_2 := bel_keeps hv2 (b := w.heap.size) (o := 0) (v := .slice ad00 gs.length cap00) (by first | (go_simp; done) | assumption); have kv2_3 := bel_keeps hv2 (b := w.heap.size) (o := 1) (v := .slice ad01 xs01.length cap01) (by first | (go_simp; done) | assumption)))
    ·
      refine ⟨rfl, p115, p215, ⟨(by (repeat (first | with_reducible exact Below.refl _ _ | (with_reducible refine bel_next ?_ ?_ (by assumption)) | (with_reducible refine Below.alloc ?_ ?_ _) | (with_reducible refine Below.drew ?_) | (with_reducible refine below_drewN ?_ _) | (with_reducible refine Below.setCell ?_ ?_ _))) <;> (first | omega | (simp; done) | (simp; omega))), trivial⟩, ?_⟩
      generalize v2 = W
      rfl
  rintro w15 p115 p215 ⟨hb15, r15_0⟩
  have z15 := hb15.size
  (try simp at z15)
  have y15_0 : w.heap.size < w15.heap.size := (by omega)
  have y15_1 : w5.heap.size < w15.heap.size := (by omega)
  have y15_2 : w7.heap.size < w15.heap.size := (by omega)
  have y15_3 : w11.heap.size < w15.heap.size := (by omega)
  have k15_0 := bel_keeps hb15 (b := w.heap.size) (o := 0) (v := .slice ad00 gs.length cap00) (by first | (go_simp; done) | assumption)
  have k15_1 := bel_keeps hb15 (b := w.heap.size) (o := 1) (v := .slice ad01 xs01.length cap01) (by first | (go_simp; done) | assumption)
  have k15_2 := bel_keeps hb15 (b := w5.heap.size) (o := 0) (v := .slice a5 PG.length c5) (by first | (go_simp; done) | assumption)
  have k15_3 := bel_keeps hb15 (b := w5.heap.size) (o := 1) (v := .slice b5 xs01.length d5) (by first | (go_simp; done) | assumption)
  have k15_4 := bel_keeps hb15 (b := w7.heap.size) (o := 0) (v := .slice (some ⟨g17, 0, none⟩) gs.length gs.length) (by first | (go_simp; done) | assumption)
  have k15_5 := bel_keeps hb15 (b := w7.heap.size) (o := 1) (v := .slice (some ⟨g27, 0, none⟩) xs01.length xs01.length) (by first | (go_simp; done) | assumption)
  have k15_6 := bel_keeps hb15 (b := w11.heap.size) (o := 0) (v := .slice a11 PG.length c11) (by first | (go_simp; done) | assumption)
  have k15_7 := bel_keeps hb15 (b := w11.heap.size) (o := 1) (v := .slice b11 xs01.length d11) (by first | (go_simp; done) | assumption)
  clear k14_0 k14_1 k14_2 k14_3 k14_4 k14_5 k14_6 k14_7
  go_wp2_with fail
  refine (toIntS_own xs1 _ _ _ hs1 (HA1.out.below (by (repeat (first | with_reducible exact Below.refl _ _ | (with_reducible refine bel_next ?_ ?_ (by assumption)) | (with_reducible refine Below.alloc ?_ ?_ _) | (with_reducible refine Below.drew ?_) | (with_reducible refine below_drewN ?_ _) | (with_reducible refine Below.setCell ?_ ?_ _))) <;> (first | omega | (simp; done) | (simp; omega))))).mono ?_
  rintro e w16 ⟨gi16, rfl, ho16, lo16, hi16, hb16⟩
  have z16 := hb16.size
  (try simp at z16)
  have y16_0 : w.heap.size < w16.heap.size := (by omega)
  have y16_1 : w5.heap.size < w16.heap.size := (by omega)
  have y16_2 : w7.heap.size < w16.heap.size := (by omega)
  have y16_3 : w11.heap.size < w16.heap.size := (by omega)
  have k16_0 := bel_keeps hb16 (b := w.heap.size) (o := 0) (v := .slice ad00 gs.length cap00) (by first | (go_simp; done) | assumption)
  have k16_1 := bel_keeps hb16 (b := w.heap.size) (o := 1) (v := .slice ad01 xs01.length cap01) (by first | (go_simp; done) | assumption)
  have k16_2 := bel_keeps hb16 (b := w5.heap.size) (o := 0) (v := .slice a5 PG.length c5) (by first | (go_simp; done) | assumption)
  have k16_3 := bel_keeps hb16 (b := w5.heap.size) (o := 1) (v := .slice b5 xs01.length d5) (by first | (go_simp; done) | assumption)
  have k16_4 := bel_keeps hb16 (b := w7.heap.size) (o := 0) (v := .slice (some ⟨g17, 0, none⟩) gs.length gs.length) (by first | (go_simp; done) | assumption)
  have k16_5 := bel_keeps hb16 (b := w7.heap.size) (o := 1) (v := .slice (some ⟨g27, 0, none⟩) xs01.length xs01.length) (by first | (go_simp; done) | assumption)
  have k16_6 := bel_keeps hb16 (b := w11.heap.size) (o := 0) (v := .slice a11 PG.length c11) (by first | (go_simp; done) | assumption)
  have k16_7 := bel_keeps hb16 (b := w11.heap.size) (o := 1) (v := .slice b11 xs01.length d11) (by first | (go_simp; done) | assumption)
  clear k15_0 k15_1 k15_2 k15_3 k15_4 k15_5 k15_6 k15_7
  have iz16 := ho16.ins
  go_wp2_with fail
  refine (eqIntS_same xs1 _ _ _ _ _ hs1 (ho9.keep (fun a ha => (by have hh := iz9 a ha; exact (by (repeat (first | with_reducible exact Kp.refl _ _ | (with_reducible refine Kp.rng ?_ (by assumption) ?_) | (with_reducible refine Kp.below ?_ (by assumption)) | (with_reducible refine Kp.grown ?_ (by assumption) ?_) | (with_reducible refine Kp.alloc ?_ _) | (with_reducible refine Kp.drew ?_) | (with_reducible refine Kp.drewN ?_ _) | (with_reducible refine Kp.setCell ?_ _ ?_))) <;> (first | omega | (simp; done) | (simp; omega)))))).rd (ho16.keep (fun a ha => (by have hh := iz16 a ha; exact (by (repeat (first | with_reducible exact Kp.refl _ _ | (with_reducible refine Kp.rng ?_ (by assumption) ?_) | (with_reducible refine Kp.below ?_ (by assumption)) | (with_reducible refine Kp.grown ?_ (by assumption) ?_) | (with_reducible refine Kp.alloc ?_ _) | (with_reducible refine Kp.drew ?_) | (with_reducible refine Kp.drewN ?_ _) | (with_reducible refine Kp.setCell ?_ _ ?_))) <;> (first | omega | (simp; done) | (simp; omega)))))).rd).mono ?_
  rintro e _ ⟨rfl, m17, rfl⟩
  obtain ⟨w17, hw17⟩ : ∃ W, W = w16.drewN m17 := ⟨_, rfl⟩
  rw [← hw17]
  have hb17 : Below w16.heap.size w16 w17 := by rw [hw17]; exact below_drewN (Below.refl _ _) _
  clear hw17
  have z17 := hb17.size
  (try simp at z17)
  have y17_0 : w.heap.size < w17.heap.size := (by omega)
  have y17_1 : w5.heap.size < w17.heap.size := (by omega)
  have y17_2 : w7.heap.size < w17.heap.size := (by omega)
  have y17_3 : w11.heap.size < w17.heap.size := (by omega)
  have k17_0 := bel_keeps hb17 (b := w.heap.size) (o := 0) (v := .slice ad00 gs.length cap00) (by first | (go_simp; done) | assumption)
  have k17_1 := bel_keeps hb17 (b := w.heap.size) (o := 1) (v := .slice ad01 xs01.length cap01) (by first | (go_simp; done) | assumption)
  have k17_2 := bel_keeps hb17 (b := w5.heap.size) (o := 0) (v := .slice a5 PG.length c5) (by first | (go_simp; done) | assumption)
  have k17_3 := bel_keeps hb17 (b := w5.heap.size) (o := 1) (v := .slice b5 xs01.length d5) (by first | (go_simp; done) | assumption)
  have k17_4 := bel_keeps hb17 (b := w7.heap.size) (o := 0) (v := .slice (some ⟨g17, 0, none⟩) gs.length gs.length) (by first | (go_simp; done) | assumption)
  have k17_5 := bel_keeps hb17 (b := w7.heap.size) (o := 1) (v := .slice (some ⟨g27, 0, none⟩) xs01.length xs01.length) (by first | (go_simp; done) | assumption)
  have k17_6 := bel_keeps hb17 (b := w11.heap.size) (o := 0) (v := .slice a11 PG.length c11) (by first | (go_simp; done) | assumption)
  have k17_7 := bel_keeps hb17 (b := w11.heap.size) (o := 1) (v := .slice b11 xs01.length d11) (by first | (go_simp; done) | assumption)
  clear k16_0 k16_1 k16_2 k16_3 k16_4 k16_5 k16_6 k16_7
  go_wp2_with fail
  refine (toIntS_own xs2 _ _ _ hs2 (HA2.out.below (by (repeat (first | with_reducible exact Below.refl _ _ | (with_reducible refine bel_next ?_ ?_ (by assumption)) | (with_reducible refine Below.alloc ?_ ?_ _) | (with_reducible refine Below.drew ?_) | (with_reducible refine below_drewN ?_ _) | (with_reducible refine Below.setCell ?_ ?_ _))) <;> (first | omega | (simp; done) | (simp; omega))))).mono ?_
  rintro e w18 ⟨gi18, rfl, ho18, lo18, hi18, hb18⟩
  have z18 := hb18.size
  (try simp at z18)
  have y18_0 : w.heap.size < w18.heap.size := (by omega)
  have y18_1 : w5.heap.size < w18.heap.size := (by omega)
  have y18_2 : w7.heap.size < w18.heap.size := (by omega)
  have y18_3 : w11.heap.size < w18.heap.size := (by omega)
  have k18_0 := bel_keeps hb18 (b := w.heap.size) (o := 0) (v := .slice ad00 gs.length cap00) (by first | (go_simp; done) | assumption)
  have k18_1 := bel_keeps hb18 (b := w.heap.size) (o := 1) (v := .slice ad01 xs01.length cap01) (by first | (go_simp; done) | assumption)
  have k18_2 := bel_keeps hb18 (b := w5.heap.size) (o := 0) (v := .slice a5 PG.length c5) (by first | (go_simp; done) | assumption)
  have k18_3 := bel_keeps hb18 (b := w5.heap.size) (o := 1) (v := .slice b5 xs01.length d5) (by first | (go_simp; done) | assumption)
  have k18_4 := bel_keeps hb18 (b := w7.heap.size) (o := 0) (v := .slice (some ⟨g17, 0, none⟩) gs.length gs.length) (by first | (go_simp; done) | assumption)
  have k18_5 := bel_keeps hb18 (b := w7.heap.size) (o := 1) (v := .slice (some ⟨g27, 0, none⟩) xs01.length xs01.length) (by first | (go_simp; done) | assumption)
  have k18_6 := bel_keeps hb18 (b := w11.heap.size) (o := 0) (v := .slice a11 PG.length c11) (by first | (go_simp; done) | assumption)
  have k18_7 := bel_keeps hb18 (b := w11.heap.size) (o := 1) (v := .slice b11 xs01.length d11) (by first | (go_simp; done) | assumption)
  clear k17_0 k17_1 k17_2 k17_3 k17_4 k17_5 k17_6 k17_7
  have iz18 := ho18.ins
  go_wp2_with fail
  refine (eqIntS_same xs2 _ _ _ _ _ hs2 (ho10.keep (fun a ha => (by have hh := iz10 a ha; exact (by (repeat (first | with_reducible exact Kp.refl _ _ | (with_reducible refine Kp.rng ?_ (by assumption) ?_) | (with_reducible refine Kp.below ?_ (by assumption)) | (with_reducible refine Kp.grown ?_ (by assumption) ?_) | (with_reducible refine Kp.alloc ?_ _) | (with_reducible refine Kp.drew ?_) | (with_reducible refine Kp.drewN ?_ _) | (with_reducible refine Kp.setCell ?_ _ ?_))) <;> (first | omega | (simp; done) | (simp; omega)))))).rd (ho18.keep (fun a ha => (by have hh := iz18 a ha; exact (by (repeat (first | with_reducible exact Kp.refl _ _ | (with_reducible refine Kp.rng ?_ (by assumption) ?_) | (with_reducible refine Kp.below ?_ (by assumption)) | (with_reducible refine Kp.grown ?_ (by assumption) ?_) | (with_reducible refine Kp.alloc ?_ _) | (with_reducible refine Kp.drew ?_) | (with_reducible refine Kp.drewN ?_ _) | (with_reducible refine Kp.setCell ?_ _ ?_))) <;> (first | omega | (simp; done) | (simp; omega)))))).rd).mono ?_
  rintro e _ ⟨rfl, m19, rfl⟩
  obtain ⟨w19, hw19⟩ : ∃ W, W = w18.drewN m19 := ⟨_, rfl⟩
  rw [← hw19]
  have hb19 : Below w18.heap.size w18 w19 := by rw [hw19]; exact below_drewN (Below.refl _ _) _
  clear hw19
  have z19 := hb19.size
  (try simp at z19)
  have y19_0 : w.heap.size < w19.heap.size := (by omega)
  have y19_1 : w5.heap.size < w19.heap.size := (by omega)
  have y19_2 : w7.heap.size < w19.heap.size := (by omega)
  have y19_3 : w11.heap.size < w19.heap.size := (by omega)
  have k19_0 := bel_keeps hb19 (b := w.heap.size) (o := 0) (v := .slice ad00 gs.length cap00) (by first | (go_simp; done) | assumption)
  have k19_1 := bel_keeps hb19 (b := w.heap.size) (o := 1) (v := .slice ad01 xs01.length cap01) (by first | (go_simp; done) | assumption)
  have k19_2 := bel_keeps hb19 (b := w5.heap.size) (o := 0) (v := .slice a5 PG.length c5) (by first | (go_simp; done) | assumption)
  have k19_3 := bel_keeps hb19 (b := w5.heap.size) (o := 1) (v := .slice b5 xs01.length d5) (by first | (go_simp; done) | assumption)
  have k19_4 := bel_keeps hb19 (b := w7.heap.size) (o := 0) (v := .slice (some ⟨g17, 0, none⟩) gs.length gs.length) (by first | (go_simp; done) | assumption)
  have k19_5 := bel_keeps hb19 (b := w7.heap.size) (o := 1) (v := .slice (some ⟨g27, 0, none⟩) xs01.length xs01.length) (by first | (go_simp; done) | assumption)
  have k19_6 := bel_keeps hb19 (b := w11.heap.size) (o := 0) (v := .slice a11 PG.length c11) (by first | (go_simp; done) | assumption)
  have k19_7 := bel_keeps hb19 (b := w11.heap.size) (o := 1) (v := .slice b11 xs01.length d11) (by first | (go_simp; done) | assumption)
  clear k18_0 k18_1 k18_2 k18_3 k18_4 k18_5 k18_6 k18_7
  go_wp2_with fail
  refine (markCircuit_any (gs.length) (xs01.length) _ _ _ _ w6.heap.size w7.heap.size 1 (some ⟨g17, 0, none⟩) (some ⟨g27, 0, none⟩) _ _ _ (by omega) (by omega) hm0 hm1 (o17.keep (fun a ha => (by have hh := i17 a ha; exact (by (repeat (first | with_reducible exact Kp.refl _ _ | (with_reducible refine Kp.rng ?_ (by assumption) ?_) | (with_reducible refine Kp.below ?_ (by assumption)) | (with_reducible refine Kp.grown ?_ (by assumption) ?_) | (with_reducible refine Kp.alloc ?_ _) | (with_reducible refine Kp.drew ?_) | (with_reducible refine Kp.drewN ?_ _) | (with_reducible refine Kp.setCell ?_ _ ?_))) <;> (first | omega | (simp; done) | (simp; omega)))))) (o27.keep (fun a ha => (by have hh := i27 a ha; exact (by (repeat (first | with_reducible exact Kp.refl _ _ | (with_reducible refine Kp.rng ?_ (by assumption) ?_) | (with_reducible refine Kp.below ?_ (by assumption)) | (with_reducible refine Kp.grown ?_ (by assumption) ?_) | (with_reducible refine Kp.alloc ?_ _) | (with_reducible refine Kp.drew ?_) | (with_reducible refine Kp.drewN ?_ _) | (with_reducible refine Kp.setCell ?_ _ ?_))) <;> (first | omega | (simp; done) | (simp; omega)))))) i17 i27 ne7 (by omega) (by first | omega | (simp; done) | (simp; omega))).mono ?_
  rintro e w20 ⟨rfl, o120, o220, hb20, hr20⟩
  have z20 := hb20.size
  (try simp at z20)
  have y20_0 : w.heap.size < w20.heap.size := (by omega)
  have y20_1 : w5.heap.size < w20.heap.size := (by omega)
  have y20_2 : w7.heap.size < w20.heap.size := (by omega)
  have y20_3 : w11.heap.size < w20.heap.size := (by omega)
  have k20_0 : w20.cell? ⟨w.heap.size, 0, none⟩ = some (.slice ad00 gs.length cap00) := hr20.keeps (by omega) (by first | (go_simp; done) | assumption)
  have k20_1 : w20.cell? ⟨w.heap.size, 1, none⟩ = some (.slice ad01 xs01.length cap01) := hr20.keeps (by omega) (by first | (go_simp; done) | assumption)
  have k20_2 : w20.cell? ⟨w5.heap.size, 0, none⟩ = some (.slice a5 PG.length c5) := hr20.keeps (by omega) (by first | (go_simp; done) | assumption)
  have k20_3 : w20.cell? ⟨w5.heap.size, 1, none⟩ = some (.slice b5 xs01.length d5) := hr20.keeps (by omega) (by first | (go_simp; done) | assumption)
  have k20_4 : w20.cell? ⟨w7.heap.size, 0, none⟩ = some (.slice (some ⟨g17, 0, none⟩) gs.length gs.length) := hr20.keeps (by omega) (by first | (go_simp; done) | assumption)
  have k20_5 : w20.cell? ⟨w7.heap.size, 1, none⟩ = some (.slice (some ⟨g27, 0, none⟩) xs01.length xs01.length) := hr20.keeps (by omega) (by first | (go_simp; done) | assumption)
  have k20_6 : w20.cell? ⟨w11.heap.size, 0, none⟩ = some (.slice a11 PG.length c11) := hr20.keeps (by omega) (by first | (go_simp; done) | assumption)
  have k20_7 : w20.cell? ⟨w11.heap.size, 1, none⟩ = some (.slice b11 xs01.length d11) := hr20.keeps (by omega) (by first | (go_simp; done) | assumption)
  clear k19_0 k19_1 k19_2 k19_3 k19_4 k19_5 k19_6 k19_7
  go_wp2_with fail
  refine (markIntS_rng xs1.length _ _ w8.heap.size w9.heap.size (1 + (gs.length * 3 : Nat) + xs01.length) (some ⟨gi9, 0, none⟩) _ _ (by omega) (by omega) hs1 (ho9.keep (fun a ha => (by have hh := iz9 a ha; exact (by (repeat (first | with_reducible exact Kp.refl _ _ | (with_reducible refine Kp.rng ?_ (by assumption) ?_) | (with_reducible refine Kp.below ?_ (by assumption)) | (with_reducible refine Kp.grown ?_ (by assumption) ?_) | (with_reducible refine Kp.alloc ?_ _) | (with_reducible refine Kp.drew ?_) | (with_reducible refine Kp.drewN ?_ _) | (with_reducible refine Kp.setCell ?_ _ ?_))) <;> (first | omega | (simp; done) | (simp; omega)))))) iz9 (by first | omega | (simp; done) | (simp; omega))).mono ?_
  rintro e w21 ⟨rfl, ho21, hb21, hr21⟩
  have z21 := hb21.size
  (try simp at z21)
  have y21_0 : w.heap.size < w21.heap.size := (by omega)
  have y21_1 : w5.heap.size < w21.heap.size := (by omega)
  have y21_2 : w7.heap.size < w21.heap.size := (by omega)
  have y21_3 : w11.heap.size < w21.heap.size := (by omega)
  have k21_0 : w21.cell? ⟨w.heap.size, 0, none⟩ = some (.slice ad00 gs.length cap00) := hr21.keeps (by omega) (by first | (go_simp; done) | assumption)
  have k21_1 : w21.cell? ⟨w.heap.size, 1, none⟩ = some (.slice ad01 xs01.length cap01) := hr21.keeps (by omega) (by first | (go_simp; done) | assumption)
  have k21_2 : w21.cell? ⟨w5.heap.size, 0, none⟩ = some (.slice a5 PG.length c5) := hr21.keeps (by omega) (by first | (go_simp; done) | assumption)
  have k21_3 : w21.cell? ⟨w5.heap.size, 1, none⟩ = some (.slice b5 xs01.length d5) := hr21.keeps (by omega) (by first | (go_simp; done) | assumption)
  have k21_4 : w21.cell? ⟨w7.heap.size, 0, none⟩ = some (.slice (some ⟨g17, 0, none⟩) gs.length gs.length) := hr21.keeps (by omega) (by first | (go_simp; done) | assumption)
  have k21_5 : w21.cell? ⟨w7.heap.size, 1, none⟩ = some (.slice (some ⟨g27, 0, none⟩) xs01.length xs01.length) := hr21.keeps (by omega) (by first | (go_simp; done) | assumption)
  have k21_6 : w21.cell? ⟨w11.heap.size, 0, none⟩ = some (.slice a11 PG.length c11) := hr21.keeps (by omega) (by first | (go_simp; done) | assumption)
  have k21_7 : w21.cell? ⟨w11.heap.size, 1, none⟩ = some (.slice b11 xs01.length d11) := hr21.keeps (by omega) (by first | (go_simp; done) | assumption)
  clear k20_0 k20_1 k20_2 k20_3 k20_4 k20_5 k20_6 k20_7
  go_wp2_with fail
  refine (markIntS_rng xs2.length _ _ w9.heap.size w10.heap.size (1 + (gs.length * 3 : Nat) + xs01.length + xs1.length) (some ⟨gi10, 0, none⟩) _ _ (by omega) (by omega) hs2 (ho10.keep (fun a ha => (by have hh := iz10 a ha; exact (by (repeat (first | with_reducible exact Kp.refl _ _ | (with_reducible refine Kp.rng ?_ (by assumption) ?_) | (with_reducible refine Kp.below ?_ (by assumption)) | (with_reducible refine Kp.grown ?_ (by assumption) ?_) | (with_reducible refine Kp.alloc ?_ _) | (with_reducible refine Kp.drew ?_) | (with_reducible refine Kp.drewN ?_ _) | (with_reducible refine Kp.setCell ?_ _ ?_))) <;> (first | omega | (simp; done) | (simp; omega)))))) iz10 (by first | omega | (simp; done) | (simp; omega))).mono ?_
  rintro e w22 ⟨rfl, ho22, hb22, hr22⟩
  have z22 := hb22.size
  (try simp at z22)
  have y22_0 : w.heap.size < w22.heap.size := (by omega)
  have y22_1 : w5.heap.size < w22.heap.size := (by omega)
  have y22_2 : w7.heap.size < w22.heap.size := (by omega)
  have y22_3 : w11.heap.size < w22.heap.size := (by omega)
  have k22_0 : w22.cell? ⟨w.heap.size, 0, none⟩ = some (.slice ad00 gs.length cap00) := hr22.keeps (by omega) (by first | (go_simp; done) | assumption)
  have k22_1 : w22.cell? ⟨w.heap.size, 1, none⟩ = some (.slice ad01 xs01.length cap01) := hr22.keeps (by omega) (by first | (go_simp; done) | assumption)
  have k22_2 : w22.cell? ⟨w5.heap.size, 0, none⟩ = some (.slice a5 PG.length c5) := hr22.keeps (by omega) (by first | (go_simp; done) | assumption)
  have k22_3 : w22.cell? ⟨w5.heap.size, 1, none⟩ = some (.slice b5 xs01.length d5) := hr22.keeps (by omega) (by first | (go_simp; done) | assumption)
  have k22_4 : w22.cell? ⟨w7.heap.size, 0, none⟩ = some (.slice (some ⟨g17, 0, none⟩) gs.length gs.length) := hr22.keeps (by omega) (by first | (go_simp; done) | assumption)
  have k22_5 : w22.cell? ⟨w7.heap.size, 1, none⟩ = some (.slice (some ⟨g27, 0, none⟩) xs01.length xs01.length) := hr22.keeps (by omega) (by first | (go_simp; done) | assumption)
  have k22_6 : w22.cell? ⟨w11.heap.size, 0, none⟩ = some (.slice a11 PG.length c11) := hr22.keeps (by omega) (by first | (go_simp; done) | assumption)
  have k22_7 : w22.cell? ⟨w11.heap.size, 1, none⟩ = some (.slice b11 xs01.length d11) := hr22.keeps (by omega) (by first | (go_simp; done) | assumption)
  clear k21_0 k21_1 k21_2 k21_3 k21_4 k21_5 k21_6 k21_7
  go_wp2_with fail
  refine (eqCircuit_same PG xs01 _ _ _ _ _ _ _ _ _ hF0 hm1 (oc11.keep (fun a ha => (by have hh := ic11 a ha; exact (by (repeat (first | with_reducible exact Kp.refl _ _ | (with_reducible refine Kp.rng ?_ (by assumption) ?_) | (with_reducible refine Kp.below ?_ (by assumption)) | (with_reducible refine Kp.grown ?_ (by assumption) ?_) | (with_reducible refine Kp.alloc ?_ _) | (with_reducible refine Kp.drew ?_) | (with_reducible refine Kp.drewN ?_ _) | (with_reducible refine Kp.setCell ?_ _ ?_))) <;> (first | omega | (simp; done) | (simp; omega)))))).rd (uc11.keep (fun a ha => (by have hh := jc11 a ha; exact (by (repeat (first | with_reducible exact Kp.refl _ _ | (with_reducible refine Kp.rng ?_ (by assumption) ?_) | (with_reducible refine Kp.below ?_ (by assumption)) | (with_reducible refine Kp.grown ?_ (by assumption) ?_) | (with_reducible refine Kp.alloc ?_ _) | (with_reducible refine Kp.drew ?_) | (with_reducible refine Kp.drewN ?_ _) | (with_reducible refine Kp.setCell ?_ _ ?_))) <;> (first | omega | (simp; done) | (simp; omega)))))).rd (oc5.keep (fun a ha => (by have hh := ic5 a ha; exact (by (repeat (first | with_reducible exact Kp.refl _ _ | (with_reducible refine Kp.rng ?_ (by assumption) ?_) | (with_reducible refine Kp.below ?_ (by assumption)) | (with_reducible refine Kp.grown ?_ (by assumption) ?_) | (with_reducible refine Kp.alloc ?_ _) | (with_reducible refine Kp.drew ?_) | (with_reducible refine Kp.drewN ?_ _) | (with_reducible refine Kp.setCell ?_ _ ?_))) <;> (first | omega | (simp; done) | (simp; omega)))))).rd (uc5.keep (fun a ha => (by have hh := jc5 a ha; exact (by (repeat (first | with_reducible exact Kp.refl _ _ | (with_reducible refine Kp.rng ?_ (by assumption) ?_) | (with_reducible refine Kp.below ?_ (by assumption)) | (with_reducible refine Kp.grown ?_ (by assumption) ?_) | (with_reducible refine Kp.alloc ?_ _) | (with_reducible refine Kp.drew ?_) | (with_reducible refine Kp.drewN ?_ _) | (with_reducible refine Kp.setCell ?_ _ ?_))) <;> (first | omega | (simp; done) | (simp; omega)))))).rd).mono ?_
  rintro e w23 ⟨rfl, hb23⟩
  have z23 := hb23.size
  (try simp at z23)
  have y23_0 : w.heap.size < w23.heap.size := (by omega)
  have y23_1 : w5.heap.size < w23.heap.size := (by omega)
  have y23_2 : w7.heap.size < w23.heap.size := (by omega)
  have y23_3 : w11.heap.size < w23.heap.size := (by omega)
  have k23_0 := bel_keeps hb23 (b := w.heap.size) (o := 0) (v := .slice ad00 gs.length cap00) (by first | (go_simp; done) | assumption)
  have k23_1 := bel_keeps hb23 (b := w.heap.size) (o := 1) (v := .slice ad01 xs01.length cap01) (by first | (go_simp; done) | assumption)
  have k23_2 := bel_keeps hb23 (b := w5.heap.size) (o := 0) (v := .slice a5 PG.length c5) (by first | (go_simp; done) | assumption)
  have k23_3 := bel_keeps hb23 (b := w5.heap.size) (o := 1) (v := .slice b5 xs01.length d5) (by first | (go_simp; done) | assumption)
  have k23_4 := bel_keeps hb23 (b := w7.heap.size) (o := 0) (v := .slice (some ⟨g17, 0, none⟩) gs.length gs.length) (by first | (go_simp; done) | assumption)
  have k23_5 := bel_keeps hb23 (b := w7.heap.size) (o := 1) (v := .slice (some ⟨g27, 0, none⟩) xs01.length xs01.length) (by first | (go_simp; done) | assumption)
  have k23_6 := bel_keeps hb23 (b := w11.heap.size) (o := 0) (v := .slice a11 PG.length c11) (by first | (go_simp; done) | assumption)
  have k23_7 := bel_keeps hb23 (b := w11.heap.size) (o := 1) (v := .slice b11 xs01.length d11) (by first | (go_simp; done) | assumption)
  clear k22_0 k22_1 k22_2 k22_3 k22_4 k22_5 k22_6 k22_7
  go_wp2_with fail
  refine (eqIntS_same PW _ _ _ _ _ hF1 (v11.keep (fun a ha => (by have hh := ik11 a ha; exact (by (repeat (first | with_reducible exact Kp.refl _ _ | (with_reducible refine Kp.rng ?_ (by assumption) ?_) | (with_reducible refine Kp.below ?_ (by assumption)) | (with_reducible refine Kp.grown ?_ (by assumption) ?_) | (with_reducible refine Kp.alloc ?_ _) | (with_reducible refine Kp.drew ?_) | (with_reducible refine Kp.drewN ?_ _) | (with_reducible refine Kp.setCell ?_ _ ?_))) <;> (first | omega | (simp; done) | (simp; omega)))))).rd (v5.keep (fun a ha => (by have hh := ik5 a ha; exact (by (repeat (first | with_reducible exact Kp.refl _ _ | (with_reducible refine Kp.rng ?_ (by assumption) ?_) | (with_reducible refine Kp.below ?_ (by assumption)) | (with_reducible refine Kp.grown ?_ (by assumption) ?_) | (with_reducible refine Kp.alloc ?_ _) | (with_reducible refine Kp.drew ?_) | (with_reducible refine Kp.drewN ?_ _) | (with_reducible refine Kp.setCell ?_ _ ?_))) <;> (first | omega | (simp; done) | (simp; omega)))))).rd).mono ?_
  rintro e _ ⟨rfl, m24, rfl⟩
  obtain ⟨w24, hw24⟩ : ∃ W, W = w23.drewN m24 := ⟨_, rfl⟩
  rw [← hw24]
  have hb24 : Below w23.heap.size w23 w24 := by rw [hw24]; exact below_drewN (Below.refl _ _) _
  clear hw24
  have z24 := hb24.size
  (try simp at z24)
  have y24_0 : w.heap.size < w24.heap.size := (by omega)
  have y24_1 : w5.heap.size < w24.heap.size := (by omega)
  have y24_2 : w7.heap.size < w24.heap.size := (by omega)
  have y24_3 : w11.heap.size < w24.heap.size := (by omega)
  have k24_0 := bel_keeps hb24 (b := w.heap.size) (o := 0) (v := .slice ad00 gs.length cap00) (by first | (go_simp; done) | assumption)
  have k24_1 := bel_keeps hb24 (b := w.heap.size) (o := 1) (v := .slice ad01 xs01.length cap01) (by first | (go_simp; done) | assumption)
  have k24_2 := bel_keeps hb24 (b := w5.heap.size) (o := 0) (v := .slice a5 PG.length c5) (by first | (go_simp; done) | assumption)
  have k24_3 := bel_keeps hb24 (b := w5.heap.size) (o := 1) (v := .slice b5 xs01.length d5) (by first | (go_simp; done) | assumption)
  have k24_4 := bel_keeps hb24 (b := w7.heap.size) (o := 0) (v := .slice (some ⟨g17, 0, none⟩) gs.length gs.length) (by first | (go_simp; done) | assumption)
  have k24_5 := bel_keeps hb24 (b := w7.heap.size) (o := 1) (v := .slice (some ⟨g27, 0, none⟩) xs01.length xs01.length) (by first | (go_simp; done) | assumption)
  have k24_6 := bel_keeps hb24 (b := w11.heap.size) (o := 0) (v := .slice a11 PG.length c11) (by first | (go_simp; done) | assumption)
  have k24_7 := bel_keeps hb24 (b := w11.heap.size) (o := 1) (v := .slice b11 xs01.length d11) (by first | (go_simp; done) | assumption)
  clear k23_0 k23_1 k23_2 k23_3 k23_4 k23_5 k23_6 k23_7
  go_wp2_with fail
  have hq25 : Own w24 _ _ _ x11 (PW.length) _ _ := (v11.keep (fun a ha => (by have hh := ik11 a ha; exact (by (repeat (first | with_reducible exact Kp.refl _ _ | (with_reducible refine Kp.rng ?_ (by assumption) ?_) | (with_reducible refine Kp.below ?_ (by assumption)) | (with_reducible refine Kp.grown ?_ (by assumption) ?_) | (with_reducible refine Kp.alloc ?_ _) | (with_reducible refine Kp.drew ?_) | (with_reducible refine Kp.drewN ?_ _) | (with_reducible refine Kp.setCell ?_ _ ?_))) <;> (first | omega | (simp; done) | (simp; omega))))))
  refine (markCircuit2_any (PG.length) (xs01.length) _ _ _ _ w10.heap.size w11.heap.size 1 a11 b11 _ _ _ (by omega) (by omega) hF0 hm1 (oc11.keep (fun a ha => (by have hh := ic11 a ha; exact (by (repeat (first | with_reducible exact Kp.refl _ _ | (with_reducible refine Kp.rng ?_ (by assumption) ?_) | (with_reducible refine Kp.below ?_ (by assumption)) | (with_reducible refine Kp.grown ?_ (by assumption) ?_) | (with_reducible refine Kp.alloc ?_ _) | (with_reducible refine Kp.drew ?_) | (with_reducible refine Kp.drewN ?_ _) | (with_reducible refine Kp.setCell ?_ _ ?_))) <;> (first | omega | (simp; done) | (simp; omega)))))) (uc11.keep (fun a ha => (by have hh := jc11 a ha; exact (by (repeat (first | with_reducible exact Kp.refl _ _ | (with_reducible refine Kp.rng ?_ (by assumption) ?_) | (with_reducible refine Kp.below ?_ (by assumption)) | (with_reducible refine Kp.grown ?_ (by assumption) ?_) | (with_reducible refine Kp.alloc ?_ _) | (with_reducible refine Kp.drew ?_) | (with_reducible refine Kp.drewN ?_ _) | (with_reducible refine Kp.setCell ?_ _ ?_))) <;> (first | omega | (simp; done) | (simp; omega)))))) ic11 jc11 ne11 (by omega) (by first | omega | (simp; done) | (simp; omega))).mono ?_
  rintro e w25 ⟨rfl, o125, o225, hb25, hr25, hkq25⟩
  have oq25 := hq25.keep fun a ha => hkq25 _ (fun x hx => na11 x a hx ha) (fun x hx => nb11 x a hx ha)
  clear hq25 hkq25
  have z25 := hb25.size
  (try simp at z25)
  have y25_0 : w.heap.size < w25.heap.size := (by omega)
  have y25_1 : w5.heap.size < w25.heap.size := (by omega)
  have y25_2 : w7.heap.size < w25.heap.size := (by omega)
  have y25_3 : w11.heap.size < w25.heap.size := (by omega)
  have k25_0 : w25.cell? ⟨w.heap.size, 0, none⟩ = some (.slice ad00 gs.length cap00) := hr25.keeps (by omega) (by first | (go_simp; done) | assumption)
  have k25_1 : w25.cell? ⟨w.heap.size, 1, none⟩ = some (.slice ad01 xs01.length cap01) := hr25.keeps (by omega) (by first | (go_simp; done) | assumption)
  have k25_2 : w25.cell? ⟨w5.heap.size, 0, none⟩ = some (.slice a5 PG.length c5) := hr25.keeps (by omega) (by first | (go_simp; done) | assumption)
  have k25_3 : w25.cell? ⟨w5.heap.size, 1, none⟩ = some (.slice b5 xs01.length d5) := hr25.keeps (by omega) (by first | (go_simp; done) | assumption)
  have k25_4 : w25.cell? ⟨w7.heap.size, 0, none⟩ = some (.slice (some ⟨g17, 0, none⟩) gs.length gs.length) := hr25.keeps (by omega) (by first | (go_simp; done) | assumption)
  have k25_5 : w25.cell? ⟨w7.heap.size, 1, none⟩ = some (.slice (some ⟨g27, 0, none⟩) xs01.length xs01.length) := hr25.keeps (by omega) (by first | (go_simp; done) | assumption)
  have k25_6 : w25.cell? ⟨w11.heap.size, 0, none⟩ = some (.slice a11 PG.length c11) := hr25.keeps (by omega) (by first | (go_simp; done) | assumption)
  have k25_7 : w25.cell? ⟨w11.heap.size, 1, none⟩ = some (.slice b11 xs01.length d11) := hr25.keeps (by omega) (by first | (go_simp; done) | assumption)
  clear k24_0 k24_1 k24_2 k24_3 k24_4 k24_5 k24_6 k24_7
  go_wp2_with fail
  have hq26 : Own w25 _ _ _ a11 (PG.length) _ _ := (o125.keep (fun a ha => (by have hh := ic11 a ha; exact (by (repeat (first | with_reducible exact Kp.refl _ _ | (with_reducible refine Kp.rng ?_ (by assumption) ?_) | (with_reducible refine Kp.below ?_ (by assumption)) | (with_reducible refine Kp.grown ?_ (by assumption) ?_) | (with_reducible refine Kp.alloc ?_ _) | (with_reducible refine Kp.drew ?_) | (with_reducible refine Kp.drewN ?_ _) | (with_reducible refine Kp.setCell ?_ _ ?_))) <;> (first | omega | (simp; done) | (simp; omega))))))
  have hp26 : Own w25 _ _ _ b11 (xs01.length) _ _ := (o225.keep (fun a ha => (by have hh := jc11 a ha; exact (by (repeat (first | with_reducible exact Kp.refl _ _ | (with_reducible refine Kp.rng ?_ (by assumption) ?_) | (with_reducible refine Kp.below ?_ (by assumption)) | (with_reducible refine Kp.grown ?_ (by assumption) ?_) | (with_reducible refine Kp.alloc ?_ _) | (with_reducible refine Kp.drew ?_) | (with_reducible refine Kp.drewN ?_ _) | (with_reducible refine Kp.setCell ?_ _ ?_))) <;> (first | omega | (simp; done) | (simp; omega))))))
  have hin26 : Ins x11 w10.heap.size w11.heap.size := ik11
  refine (markIntS_any (PW.length) _ _ (1 + (PG.length * 3 : Nat) + xs01.length) _ _ _ (by omega) (by omega) hF1 (oq25.keep (fun a ha => (by have hh := ik11 a ha; exact (by (repeat (first | with_reducible exact Kp.refl _ _ | (with_reducible refine Kp.rng ?_ (by assumption) ?_) | (with_reducible refine Kp.below ?_ (by assumption)) | (with_reducible refine Kp.grown ?_ (by assumption) ?_) | (with_reducible refine Kp.alloc ?_ _) | (with_reducible refine Kp.drew ?_) | (with_reducible refine Kp.drewN ?_ _) | (with_reducible refine Kp.setCell ?_ _ ?_))) <;> (first | omega | (simp; done) | (simp; omega))))))).mono ?_
  rintro e w26 ⟨rfl, ho26, hg26⟩
  have hb26 := below_of_grown hin26 (by first | omega | (simp; done) | (simp; omega)) hg26
  have hr26 := Rng.of_grown hin26 hg26
  have oq26 := hq26.kpg hg26 (fun a ha => map_ne_of fun y hy e => na11 a y ha hy e.symm)
  have op26 := hp26.kpg hg26 (fun a ha => map_ne_of fun y hy e => nb11 a y ha hy e.symm)
  clear hq26 hp26 hg26 hin26
  have z26 := hb26.size
  (try simp at z26)
  have y26_0 : w.heap.size < w26.heap.size := (by omega)
  have y26_1 : w5.heap.size < w26.heap.size := (by omega)
  have y26_2 : w7.heap.size < w26.heap.size := (by omega)
  have y26_3 : w11.heap.size < w26.heap.size := (by omega)
  have k26_0 : w26.cell? ⟨w.heap.size, 0, none⟩ = some (.slice ad00 gs.length cap00) := hr26.keeps (by omega) (by first | (go_simp; done) | assumption)
  have k26_1 : w26.cell? ⟨w.heap.size, 1, none⟩ = some (.slice ad01 xs01.length cap01) := hr26.keeps (by omega) (by first | (go_simp; done) | assumption)
  have k26_2 : w26.cell? ⟨w5.heap.size, 0, none⟩ = some (.slice a5 PG.length c5) := hr26.keeps (by omega) (by first | (go_simp; done) | assumption)
  have k26_3 : w26.cell? ⟨w5.heap.size, 1, none⟩ = some (.slice b5 xs01.length d5) := hr26.keeps (by omega) (by first | (go_simp; done) | assumption)
  have k26_4 : w26.cell? ⟨w7.heap.size, 0, none⟩ = some (.slice (some ⟨g17, 0, none⟩) gs.length gs.length) := hr26.keeps (by omega) (by first | (go_simp; done) | assumption)
  have k26_5 : w26.cell? ⟨w7.heap.size, 1, none⟩ = some (.slice (some ⟨g27, 0, none⟩) xs01.length xs01.length) := hr26.keeps (by omega) (by first | (go_simp; done) | assumption)
  have k26_6 : w26.cell? ⟨w11.heap.size, 0, none⟩ = some (.slice a11 PG.length c11) := hr26.keeps (by omega) (by first | (go_simp; done) | assumption)
  have k26_7 : w26.cell? ⟨w11.heap.size, 1, none⟩ = some (.slice b11 xs01.length d11) := hr26.keeps (by omega) (by first | (go_simp; done) | assumption)
  clear k25_0 k25_1 k25_2 k25_3 k25_4 k25_5 k25_6 k25_7
  go_wp2_with fail
  refine (heldCircuit_any (PG.length) (xs01.length) 1 _ _ _ _ _ (by omega) (by omega) hF0 hm1 (oq26.keep (fun a ha => (by have hh := ic11 a ha; exact (by (repeat (first | with_reducible exact Kp.refl _ _ | (with_reducible refine Kp.rng ?_ (by assumption) ?_) | (with_reducible refine Kp.below ?_ (by assumption)) | (with_reducible refine Kp.grown ?_ (by assumption) ?_) | (with_reducible refine Kp.alloc ?_ _) | (with_reducible refine Kp.drew ?_) | (with_reducible refine Kp.drewN ?_ _) | (with_reducible refine Kp.setCell ?_ _ ?_))) <;> (first | omega | (simp; done) | (simp; omega)))))).rd (op26.keep (fun a ha => (by have hh := jc11 a ha; exact (by (repeat (first | with_reducible exact Kp.refl _ _ | (with_reducible refine Kp.rng ?_ (by assumption) ?_) | (with_reducible refine Kp.below ?_ (by assumption)) | (with_reducible refine Kp.grown ?_ (by assumption) ?_) | (with_reducible refine Kp.alloc ?_ _) | (with_reducible refine Kp.drew ?_) | (with_reducible refine Kp.drewN ?_ _) | (with_reducible refine Kp.setCell ?_ _ ?_))) <;> (first | omega | (simp; done) | (simp; omega)))))).rd).mono ?_
  rintro e w27 ⟨rfl, hb27⟩
  have z27 := hb27.size
  (try simp at z27)
  have y27_0 : w.heap.size < w27.heap.size := (by omega)
  have y27_1 : w5.heap.size < w27.heap.size := (by omega)
  have y27_2 : w7.heap.size < w27.heap.size := (by omega)
  have y27_3 : w11.heap.size < w27.heap.size := (by omega)
  have k27_0 := bel_keeps hb27 (b := w.heap.size) (o := 0) (v := .slice ad00 gs.length cap00) (by first | (go_simp; done) | assumption)
  have k27_1 := bel_keeps hb27 (b := w.heap.size) (o := 1) (v := .slice ad01 xs01.length cap01) (by first | (go_simp; done) | assumption)
  have k27_2 := bel_keeps hb27 (b := w5.heap.size) (o := 0) (v := .slice a5 PG.length c5) (by first | (go_simp; done) | assumption)
  have k27_3 := bel_keeps hb27 (b := w5.heap.size) (o := 1) (v := .slice b5 xs01.length d5) (by first | (go_simp; done) | assumption)
  have k27_4 := bel_keeps hb27 (b := w7.heap.size) (o := 0) (v := .slice (some ⟨g17, 0, none⟩) gs.length gs.length) (by first | (go_simp; done) | assumption)
  have k27_5 := bel_keeps hb27 (b := w7.heap.size) (o := 1) (v := .slice (some ⟨g27, 0, none⟩) xs01.length xs01.length) (by first | (go_simp; done) | assumption)
  have k27_6 := bel_keeps hb27 (b := w11.heap.size) (o := 0) (v := .slice a11 PG.length c11) (by first | (go_simp; done) | assumption)
  have k27_7 := bel_keeps hb27 (b := w11.heap.size) (o := 1) (v := .slice b11 xs01.length d11) (by first | (go_simp; done) | assumption)
  clear k26_0 k26_1 k26_2 k26_3 k26_4 k26_5 k26_6 k26_7
  go_wp2_with fail
  refine (heldIntS_any PW.length (1 + (PG.length * 3 : Nat) + xs01.length) _ _ _ (by omega) (by omega) hF1 (ho26.keep (fun a ha => (by have hh := ik11 a ha; exact (by (repeat (first | with_reducible exact Kp.refl _ _ | (with_reducible refine Kp.rng ?_ (by assumption) ?_) | (with_reducible refine Kp.below ?_ (by assumption)) | (with_reducible refine Kp.grown ?_ (by assumption) ?_) | (with_reducible refine Kp.alloc ?_ _) | (with_reducible refine Kp.drew ?_) | (with_reducible refine Kp.drewN ?_ _) | (with_reducible refine Kp.setCell ?_ _ ?_))) <;> (first | omega | (simp; done) | (simp; omega)))))).rd).mono ?_
  rintro e _ ⟨rfl, rfl⟩
  go_wp2_with fail
  refine (toCircuit_any gs xs01 _ _ _ _ _ hm0 hm1 (HR0.out.below (by (repeat (first | with_reducible exact Below.refl _ _ | (with_reducible refine bel_next ?_ ?_ (by assumption)) | (with_reducible refine Below.alloc ?_ ?_ _) | (with_reducible refine Below.drew ?_) | (with_reducible refine below_drewN ?_ _) | (with_reducible refine Below.setCell ?_ ?_ _))) <;> (first | omega | (simp; done) | (simp; omega)))) (HR1.out.below (by (repeat (first | with_reducible exact Below.refl _ _ | (with_reducible refine bel_next ?_ ?_ (by assumption)) | (with_reducible refine Below.alloc ?_ ?_ _) | (with_reducible refine Below.drew ?_) | (with_reducible refine below_drewN ?_ _) | (with_reducible refine Below.setCell ?_ ?_ _))) <;> (first | omega | (simp; done) | (simp; omega))))).mono ?_
  rintro e w28 ⟨g128, g228, rfl, o128, o228, lt28, hb28⟩
  have z28 := hb28.size
  (try simp at z28)
  have y28_0 : w.heap.size < w28.heap.size := (by omega)
  have y28_1 : w5.heap.size < w28.heap.size := (by omega)
  have y28_2 : w7.heap.size < w28.heap.size := (by omega)
  have y28_3 : w11.heap.size < w28.heap.size := (by omega)
  have k28_0 := bel_keeps hb28 (b := w.heap.size) (o := 0) (v := .slice ad00 gs.length cap00) (by first | (go_simp; done) | assumption)
  have k28_1 := bel_keeps hb28 (b := w.heap.size) (o := 1) (v := .slice ad01 xs01.length cap01) (by first | (go_simp; done) | assumption)
  have k28_2 := bel_keeps hb28 (b := w5.heap.size) (o := 0) (v := .slice a5 PG.length c5) (by first | (go_simp; done) | assumption)
  have k28_3 := bel_keeps hb28 (b := w5.heap.size) (o := 1) (v := .slice b5 xs01.length d5) (by first | (go_simp; done) | assumption)
  have k28_4 := bel_keeps hb28 (b := w7.heap.size) (o := 0) (v := .slice (some ⟨g17, 0, none⟩) gs.length gs.length) (by first | (go_simp; done) | assumption)
  have k28_5 := bel_keeps hb28 (b := w7.heap.size) (o := 1) (v := .slice (some ⟨g27, 0, none⟩) xs01.length xs01.length) (by first | (go_simp; done) | assumption)
  have k28_6 := bel_keeps hb28 (b := w11.heap.size) (o := 0) (v := .slice a11 PG.length c11) (by first | (go_simp; done) | assumption)
  have k28_7 := bel_keeps hb28 (b := w11.heap.size) (o := 1) (v := .slice b11 xs01.length d11) (by first | (go_simp; done) | assumption)
  clear k27_0 k27_1 k27_2 k27_3 k27_4 k27_5 k27_6 k27_7
  have i128 := o128.ins
  have i228 := o228.ins
  have ne28 : ∀ x y, (some ⟨g128, 0, none⟩ : Option Addr) = some x → (some ⟨g228, 0, none⟩ : Option Addr) = some y → x.block ≠ y.block := by (intro x y hx hy; obtain rfl := Option.some.inj hx; obtain rfl := Option.some.inj hy; simp; omega)
  go_wp2_with fail
  refine (toIntS_own xs1 _ _ _ hs1 (HA1.out.below (by (repeat (first | with_reducible exact Below.refl _ _ | (with_reducible refine bel_next ?_ ?_ (by assumption)) | (with_reducible refine Below.alloc ?_ ?_ _) | (with_reducible refine Below.drew ?_) | (with_reducible refine below_drewN ?_ _) | (with_reducible refine Below.setCell ?_ ?_ _))) <;> (first | omega | (simp; done) | (simp; omega))))).mono ?_
  rintro e w29 ⟨gi29, rfl, ho29, lo29, hi29, hb29⟩
  have z29 := hb29.size
  (try simp at z29)
  have y29_0 : w.heap.size < w29.heap.size := (by omega)
  have y29_1 : w5.heap.size < w29.heap.size := (by omega)
  have y29_2 : w7.heap.size < w29.heap.size := (by omega)
  have y29_3 : w11.heap.size < w29.heap.size := (by omega)
  have k29_0 := bel_keeps hb29 (b := w.heap.size) (o := 0) (v := .slice ad00 gs.length cap00) (by first | (go_simp; done) | assumption)
  have k29_1 := bel_keeps hb29 (b := w.heap.size) (o := 1) (v := .slice ad01 xs01.length cap01) (by first | (go_simp; done) | assumption)
  have k29_2 := bel_keeps hb29 (b := w5.heap.size) (o := 0) (v := .slice a5 PG.length c5) (by first | (go_simp; done) | assumption)
  have k29_3 := bel_keeps hb29 (b := w5.heap.size) (o := 1) (v := .slice b5 xs01.length d5) (by first | (go_simp; done) | assumption)
  have k29_4 := bel_keeps hb29 (b := w7.heap.size) (o := 0) (v := .slice (some ⟨g17, 0, none⟩) gs.length gs.length) (by first | (go_simp; done) | assumption)
  have k29_5 := bel_keeps hb29 (b := w7.heap.size) (o := 1) (v := .slice (some ⟨g27, 0, none⟩) xs01.length xs01.length) (by first | (go_simp; done) | assumption)
  have k29_6 := bel_keeps hb29 (b := w11.heap.size) (o := 0) (v := .slice a11 PG.length c11) (by first | (go_simp; done) | assumption)
  have k29_7 := bel_keeps hb29 (b := w11.heap.size) (o := 1) (v := .slice b11 xs01.length d11) (by first | (go_simp; done) | assumption)
  clear k28_0 k28_1 k28_2 k28_3 k28_4 k28_5 k28_6 k28_7
  have iz29 := ho29.ins
  go_wp2_with fail
  refine (toIntS_own xs2 _ _ _ hs2 (HA2.out.below (by (repeat (first | with_reducible exact Below.refl _ _ | (with_reducible refine bel_next ?_ ?_ (by assumption)) | (with_reducible refine Below.alloc ?_ ?_ _) | (with_reducible refine Below.drew ?_) | (with_reducible refine below_drewN ?_ _) | (with_reducible refine Below.setCell ?_ ?_ _))) <;> (first | omega | (simp; done) | (simp; omega))))).mono ?_
  rintro e w30 ⟨gi30, rfl, ho30, lo30, hi30, hb30⟩
  have z30 := hb30.size
  (try simp at z30)
  have y30_0 : w.heap.size < w30.heap.size := (by omega)
  have y30_1 : w5.heap.size < w30.heap.size := (by omega)
  have y30_2 : w7.heap.size < w30.heap.size := (by omega)
  have y30_3 : w11.heap.size < w30.heap.size := (by omega)
  have k30_0 := bel_keeps hb30 (b := w.heap.size) (o := 0) (v := .slice ad00 gs.length cap00) (by first | (go_simp; done) | assumption)
  have k30_1 := bel_keeps hb30 (b := w.heap.size) (o := 1) (v := .slice ad01 xs01.length cap01) (by first | (go_simp; done) | assumption)
  have k30_2 := bel_keeps hb30 (b := w5.heap.size) (o := 0) (v := .slice a5 PG.length c5) (by first | (go_simp; done) | assumption)
  have k30_3 := bel_keeps hb30 (b := w5.heap.size) (o := 1) (v := .slice b5 xs01.length d5) (by first | (go_simp; done) | assumption)
  have k30_4 := bel_keeps hb30 (b := w7.heap.size) (o := 0) (v := .slice (some ⟨g17, 0, none⟩) gs.length gs.length) (by first | (go_simp; done) | assumption)
  have k30_5 := bel_keeps hb30 (b := w7.heap.size) (o := 1) (v := .slice (some ⟨g27, 0, none⟩) xs01.length xs01.length) (by first | (go_simp; done) | assumption)
  have k30_6 := bel_keeps hb30 (b := w11.heap.size) (o := 0) (v := .slice a11 PG.length c11) (by first | (go_simp; done) | assumption)
  have k30_7 := bel_keeps hb30 (b := w11.heap.size) (o := 1) (v := .slice b11 xs01.length d11) (by first | (go_simp; done) | assumption)
  clear k29_0 k29_1 k29_2 k29_3 k29_4 k29_5 k29_6 k29_7
  have iz30 := ho30.ins
  go_wp2_with fail
  have hcc := iWordMul_any gs xs01 (some ⟨g128, 0, none⟩) (some ⟨g228, 0, none⟩) gs.length xs01.length w30 hm0 hm1 (o128.keep (fun a ha => (by have hh := i128 a ha; exact (by (repeat (first | with_reducible exact Kp.refl _ _ | (with_reducible refine Kp.rng ?_ (by assumption) ?_) | (with_reducible refine Kp.below ?_ (by assumption)) | (with_reducible refine Kp.grown ?_ (by assumption) ?_) | (with_reducible refine Kp.alloc ?_ _) | (with_reducible refine Kp.drew ?_) | (with_reducible refine Kp.drewN ?_ _) | (with_reducible refine Kp.setCell ?_ _ ?_))) <;> (first | omega | (simp; done) | (simp; omega)))))).rd (o228.keep (fun a ha => (by have hh := i228 a ha; exact (by (repeat (first | with_reducible exact Kp.refl _ _ | (with_reducible refine Kp.rng ?_ (by assumption) ?_) | (with_reducible refine Kp.below ?_ (by assumption)) | (with_reducible refine Kp.grown ?_ (by assumption) ?_) | (with_reducible refine Kp.alloc ?_ _) | (with_reducible refine Kp.drew ?_) | (with_reducible refine Kp.drewN ?_ _) | (with_reducible refine Kp.setCell ?_ _ ?_))) <;> (first | omega | (simp; done) | (simp; omega)))))).rd xs1 xs1.length (some ⟨gi29, 0, none⟩) xs1.length rfl hs1 (ho29.keep (fun a ha => (by have hh := iz29 a ha; exact (by (repeat (first | with_reducible exact Kp.refl _ _ | (with_reducible refine Kp.rng ?_ (by assumption) ?_) | (with_reducible refine Kp.below ?_ (by assumption)) | (with_reducible refine Kp.grown ?_ (by assumption) ?_) | (with_reducible refine Kp.alloc ?_ _) | (with_reducible refine Kp.drew ?_) | (with_reducible refine Kp.drewN ?_ _) | (with_reducible refine Kp.setCell ?_ _ ?_))) <;> (first | omega | (simp; done) | (simp; omega)))))).rd xs2 xs2.length (some ⟨gi30, 0, none⟩) xs2.length rfl hs2 (ho30.keep (fun a ha => (by have hh := iz30 a ha; exact (by (repeat (first | with_reducible exact Kp.refl _ _ | (with_reducible refine Kp.rng ?_ (by assumption) ?_) | (with_reducible refine Kp.below ?_ (by assumption)) | (with_reducible refine Kp.grown ?_ (by assumption) ?_) | (with_reducible refine Kp.alloc ?_ _) | (with_reducible refine Kp.drew ?_) | (with_reducible refine Kp.drewN ?_ _) | (with_reducible refine Kp.setCell ?_ _ ?_))) <;> (first | omega | (simp; done) | (simp; omega)))))).rd
  rw [← HPG.out, ← HPW.out] at hcc
  refine hcc.mono ?_
  clear hcc
  rintro e w31 ⟨a31, c31, b31, d31, x31, y31, rfl, oc31, uc31, ne31, v31, na31, nb31, hb31⟩
  have z31 := hb31.size
  (try simp at z31)
  have y31_0 : w.heap.size < w31.heap.size := (by omega)
  have y31_1 : w5.heap.size < w31.heap.size := (by omega)
  have y31_2 : w7.heap.size < w31.heap.size := (by omega)
  have y31_3 : w11.heap.size < w31.heap.size := (by omega)
  have k31_0 := bel_keeps hb31 (b := w.heap.size) (o := 0) (v := .slice ad00 gs.length cap00) (by first | (go_simp; done) | assumption)
  have k31_1 := bel_keeps hb31 (b := w.heap.size) (o := 1) (v := .slice ad01 xs01.length cap01) (by first | (go_simp; done) | assumption)
  have k31_2 := bel_keeps hb31 (b := w5.heap.size) (o := 0) (v := .slice a5 PG.length c5) (by first | (go_simp; done) | assumption)
  have k31_3 := bel_keeps hb31 (b := w5.heap.size) (o := 1) (v := .slice b5 xs01.length d5) (by first | (go_simp; done) | assumption)
  have k31_4 := bel_keeps hb31 (b := w7.heap.size) (o := 0) (v := .slice (some ⟨g17, 0, none⟩) gs.length gs.length) (by first | (go_simp; done) | assumption)
  have k31_5 := bel_keeps hb31 (b := w7.heap.size) (o := 1) (v := .slice (some ⟨g27, 0, none⟩) xs01.length xs01.length) (by first | (go_simp; done) | assumption)
  have k31_6 := bel_keeps hb31 (b := w11.heap.size) (o := 0) (v := .slice a11 PG.length c11) (by first | (go_simp; done) | assumption)
  have k31_7 := bel_keeps hb31 (b := w11.heap.size) (o := 1) (v := .slice b11 xs01.length d11) (by first | (go_simp; done) | assumption)
  clear k30_0 k30_1 k30_2 k30_3 k30_4 k30_5 k30_6 k30_7
  have ic31 := oc31.ins
  have jc31 := uc31.ins
  have ik31 := v31.ins
  go_wp2_with fail
  obtain ⟨w32, hw32⟩ : ∃ W, W = w31.alloc (.cells #[.slice a31 PG.length c31, .slice b31 xs01.length d31] 29) := ⟨_, rfl⟩
  rw [← hw32]
  have hb32 : Below w31.heap.size w31 w32 := by rw [hw32]; exact (Below.refl _ _).alloc (Nat.le_refl _) _
  have x32 : w31.heap.size < w32.heap.size := by rw [hw32]; simp
  have z32 := hb32.size
  (try simp at z32)
  have y32_0 : w.heap.size < w32.heap.size := (by omega)
  have y32_1 : w5.heap.size < w32.heap.size := (by omega)
  have y32_2 : w7.heap.size < w32.heap.size := (by omega)
  have y32_3 : w11.heap.size < w32.heap.size := (by omega)
  have k32_0 := bel_keeps hb32 (b := w.heap.size) (o := 0) (v := .slice ad00 gs.length cap00) (by first | (go_simp; done) | assumption)
  have k32_1 := bel_keeps hb32 (b := w.heap.size) (o := 1) (v := .slice ad01 xs01.length cap01) (by first | (go_simp; done) | assumption)
  have k32_2 := bel_keeps hb32 (b := w5.heap.size) (o := 0) (v := .slice a5 PG.length c5) (by first | (go_simp; done) | assumption)
  have k32_3 := bel_keeps hb32 (b := w5.heap.size) (o := 1) (v := .slice b5 xs01.length d5) (by first | (go_simp; done) | assumption)
  have k32_4 := bel_keeps hb32 (b := w7.heap.size) (o := 0) (v := .slice (some ⟨g17, 0, none⟩) gs.length gs.length) (by first | (go_simp; done) | assumption)
  have k32_5 := bel_keeps hb32 (b := w7.heap.size) (o := 1) (v := .slice (some ⟨g27, 0, none⟩) xs01.length xs01.length) (by first | (go_simp; done) | assumption)
  have k32_6 := bel_keeps hb32 (b := w11.heap.size) (o := 0) (v := .slice a11 PG.length c11) (by first | (go_simp; done) | assumption)
  have k32_7 := bel_keeps hb32 (b := w11.heap.size) (o := 1) (v := .slice b11 xs01.length d11) (by first | (go_simp; done) | assumption)
  clear k31_0 k31_1 k31_2 k31_3 k31_4 k31_5 k31_6 k31_7
  have kb32_0 : w32.cell? ⟨w31.heap.size, 0, none⟩ = some (.slice a31 PG.length c31) := by rw [hw32]; go_simp
  have kb32_1 : w32.cell? ⟨w31.heap.size, 1, none⟩ = some (.slice b31 xs01.length d31) := by rw [hw32]; go_simp
  clear hw32
  go_wp2_with fail
  refine (eqCircuit_same PG xs01 _ _ _ _ _ _ _ _ _ hF0 hm1 (oc31.keep (fun a ha => (by have hh := ic31 a ha; exact (by (repeat (first | with_reducible exact Kp.refl _ _ | (with_reducible refine Kp.rng ?_ (by assumption) ?_) | (with_reducible refine Kp.below ?_ (by assumption)) | (with_reducible refine Kp.grown ?_ (by assumption) ?_) | (with_reducible refine Kp.alloc ?_ _) | (with_reducible refine Kp.drew ?_) | (with_reducible refine Kp.drewN ?_ _) | (with_reducible refine Kp.setCell ?_ _ ?_))) <;> (first | omega | (simp; done) | (simp; omega)))))).rd (uc31.keep (fun a ha => (by have hh := jc31 a ha; exact (by (repeat (first | with_reducible exact Kp.refl _ _ | (with_reducible refine Kp.rng ?_ (by assumption) ?_) | (with_reducible refine Kp.below ?_ (by assumption)) | (with_reducible refine Kp.grown ?_ (by assumption) ?_) | (with_reducible refine Kp.alloc ?_ _) | (with_reducible refine Kp.drew ?_) | (with_reducible refine Kp.drewN ?_ _) | (with_reducible refine Kp.setCell ?_ _ ?_))) <;> (first | omega | (simp; done) | (simp; omega)))))).rd (oc5.keep (fun a ha => (by have hh := ic5 a ha; exact (by (repeat (first | with_reducible exact Kp.refl _ _ | (with_reducible refine Kp.rng ?_ (by assumption) ?_) | (with_reducible refine Kp.below ?_ (by assumption)) | (with_reducible refine Kp.grown ?_ (by assumption) ?_) | (with_reducible refine Kp.alloc ?_ _) | (with_reducible refine Kp.drew ?_) | (with_reducible refine Kp.drewN ?_ _) | (with_reducible refine Kp.setCell ?_ _ ?_))) <;> (first | omega | (simp; done) | (simp; omega)))))).rd (uc5.keep (fun a ha => (by have hh := jc5 a ha; exact (by (repeat (first | with_reducible exact Kp.refl _ _ | (with_reducible refine Kp.rng ?_ (by assumption) ?_) | (with_reducible refine Kp.below ?_ (by assumption)) | (with_reducible refine Kp.grown ?_ (by assumption) ?_) | (with_reducible refine Kp.alloc ?_ _) | (with_reducible refine Kp.drew ?_) | (with_reducible refine Kp.drewN ?_ _) | (with_reducible refine Kp.setCell ?_ _ ?_))) <;> (first | omega | (simp; done) | (simp; omega)))))).rd).mono ?_
  rintro e w33 ⟨rfl, hb33⟩
  have z33 := hb33.size
  (try simp at z33)
  have y33_0 : w.heap.size < w33.heap.size := (by omega)
  have y33_1 : w5.heap.size < w33.heap.size := (by omega)
  have y33_2 : w7.heap.size < w33.heap.size := (by omega)
  have y33_3 : w11.heap.size < w33.heap.size := (by omega)
  have y33_4 : w31.heap.size < w33.heap.size := (by omega)
  have k33_0 := bel_keeps hb33 (b := w.heap.size) (o := 0) (v := .slice ad00 gs.length cap00) (by first | (go_simp; done) | assumption)
  have k33_1 := bel_keeps hb33 (b := w.heap.size) (o := 1) (v := .slice ad01 xs01.length cap01) (by first | (go_simp; done) | assumption)
  have k33_2 := bel_keeps hb33 (b := w5.heap.size) (o := 0) (v := .slice a5 PG.length c5) (by first | (go_simp; done) | assumption)
  have k33_3 := bel_keeps hb33 (b := w5.heap.size) (o := 1) (v := .slice b5 xs01.length d5) (by first | (go_simp; done) | assumption)
  have k33_4 := bel_keeps hb33 (b := w7.heap.size) (o := 0) (v := .slice (some ⟨g17, 0, none⟩) gs.length gs.length) (by first | (go_simp; done) | assumption)
  have k33_5 := bel_keeps hb33 (b := w7.heap.size) (o := 1) (v := .slice (some ⟨g27, 0, none⟩) xs01.length xs01.length) (by first | (go_simp; done) | assumption)
  have k33_6 := bel_keeps hb33 (b := w11.heap.size) (o := 0) (v := .slice a11 PG.length c11) (by first | (go_simp; done) | assumption)
  have k33_7 := bel_keeps hb33 (b := w11.heap.size) (o := 1) (v := .slice b11 xs01.length d11) (by first | (go_simp; done) | assumption)
  have k33_8 := bel_keeps hb33 (b := w31.heap.size) (o := 0) (v := .slice a31 PG.length c31) (by first | (go_simp; done) | assumption)
  have k33_9 := bel_keeps hb33 (b := w31.heap.size) (o := 1) (v := .slice b31 xs01.length d31) (by first | (go_simp; done) | assumption)
  clear k32_0 k32_1 k32_2 k32_3 k32_4 k32_5 k32_6 k32_7 kb32_0 kb32_1
  go_wp2_with fail
  refine (eqIntS_same PW _ _ _ _ _ hF1 (v31.keep (fun a ha => (by have hh := ik31 a ha; exact (by (repeat (first | with_reducible exact Kp.refl _ _ | (with_reducible refine Kp.rng ?_ (by assumption) ?_) | (with_reducible refine Kp.below ?_ (by assumption)) | (with_reducible refine Kp.grown ?_ (by assumption) ?_) | (with_reducible refine Kp.alloc ?_ _) | (with_reducible refine Kp.drew ?_) | (with_reducible refine Kp.drewN ?_ _) | (with_reducible refine Kp.setCell ?_ _ ?_))) <;> (first | omega | (simp; done) | (simp; omega)))))).rd (v5.keep (fun a ha => (by have hh := ik5 a ha; exact (by (repeat (first | with_reducible exact Kp.refl _ _ | (with_reducible refine Kp.rng ?_ (by assumption) ?_) | (with_reducible refine Kp.below ?_ (by assumption)) | (with_reducible refine Kp.grown ?_ (by assumption) ?_) | (with_reducible refine Kp.alloc ?_ _) | (with_reducible refine Kp.drew ?_) | (with_reducible refine Kp.drewN ?_ _) | (with_reducible refine Kp.setCell ?_ _ ?_))) <;> (first | omega | (simp; done) | (simp; omega)))))).rd).mono ?_
  rintro e _ ⟨rfl, m34, rfl⟩
  obtain ⟨w34, hw34⟩ : ∃ W, W = w33.drewN m34 := ⟨_, rfl⟩
  rw [← hw34]
  have hb34 : Below w33.heap.size w33 w34 := by rw [hw34]; exact below_drewN (Below.refl _ _) _
  clear hw34
  have z34 := hb34.size
  (try simp at z34)
  have y34_0 : w.heap.size < w34.heap.size := (by omega)
  have y34_1 : w5.heap.size < w34.heap.size := (by omega)
  have y34_2 : w7.heap.size < w34.heap.size := (by omega)
  have y34_3 : w11.heap.size < w34.heap.size := (by omega)
  have y34_4 : w31.heap.size < w34.heap.size := (by omega)
  have k34_0 := bel_keeps hb34 (b := w.heap.size) (o := 0) (v := .slice ad00 gs.length cap00) (by first | (go_simp; done) | assumption)
  have k34_1 := bel_keeps hb34 (b := w.heap.size) (o := 1) (v := .slice ad01 xs01.length cap01) (by first | (go_simp; done) | assumption)
  have k34_2 := bel_keeps hb34 (b := w5.heap.size) (o := 0) (v := .slice a5 PG.length c5) (by first | (go_simp; done) | assumption)
  have k34_3 := bel_keeps hb34 (b := w5.heap.size) (o := 1) (v := .slice b5 xs01.length d5) (by first | (go_simp; done) | assumption)
  have k34_4 := bel_keeps hb34 (b := w7.heap.size) (o := 0) (v := .slice (some ⟨g17, 0, none⟩) gs.length gs.length) (by first | (go_simp; done) | assumption)
  have k34_5 := bel_keeps hb34 (b := w7.heap.size) (o := 1) (v := .slice (some ⟨g27, 0, none⟩) xs01.length xs01.length) (by first | (go_simp; done) | assumption)
  have k34_6 := bel_keeps hb34 (b := w11.heap.size) (o := 0) (v := .slice a11 PG.length c11) (by first | (go_simp; done) | assumption)
  have k34_7 := bel_keeps hb34 (b := w11.heap.size) (o := 1) (v := .slice b11 xs01.length d11) (by first | (go_simp; done) | assumption)
  have k34_8 := bel_keeps hb34 (b := w31.heap.size) (o := 0) (v := .slice a31 PG.length c31) (by first | (go_simp; done) | assumption)
  have k34_9 := bel_keeps hb34 (b := w31.heap.size) (o := 1) (v := .slice b31 xs01.length d31) (by first | (go_simp; done) | assumption)
  clear k33_0 k33_1 k33_2 k33_3 k33_4 k33_5 k33_6 k33_7 k33_8 k33_9
  go_wp2_with fail
  refine (heldCircuit_any (PG.length) (xs01.length) 1 _ _ _ _ _ (by omega) (by omega) hF0 hm1 (oq26.keep (fun a ha => (by have hh := ic11 a ha; exact (by (repeat (first | with_reducible exact Kp.refl _ _ | (with_reducible refine Kp.rng ?_ (by assumption) ?_) | (with_reducible refine Kp.below ?_ (by assumption)) | (with_reducible refine Kp.grown ?_ (by assumption) ?_) | (with_reducible refine Kp.alloc ?_ _) | (with_reducible refine Kp.drew ?_) | (with_reducible refine Kp.drewN ?_ _) | (with_reducible refine Kp.setCell ?_ _ ?_))) <;> (first | omega | (simp; done) | (simp; omega)))))).rd (op26.keep (fun a ha => (by have hh := jc11 a ha; exact (by (repeat (first | with_reducible exact Kp.refl _ _ | (with_reducible refine Kp.rng ?_ (by assumption) ?_) | (with_reducible refine Kp.below ?_ (by assumption)) | (with_reducible refine Kp.grown ?_ (by assumption) ?_) | (with_reducible refine Kp.alloc ?_ _) | (with_reducible refine Kp.drew ?_) | (with_reducible refine Kp.drewN ?_ _) | (with_reducible refine Kp.setCell ?_ _ ?_))) <;> (first | omega | (simp; done) | (simp; omega)))))).rd).mono ?_
  rintro e w35 ⟨rfl, hb35⟩
  have z35 := hb35.size
  (try simp at z35)
  have y35_0 : w.heap.size < w35.heap.size := (by omega)
  have y35_1 : w5.heap.size < w35.heap.size := (by omega)
  have y35_2 : w7.heap.size < w35.heap.size := (by omega)
  have y35_3 : w11.heap.size < w35.heap.size := (by omega)
  have y35_4 : w31.heap.size < w35.heap.size := (by omega)
  have k35_0 := bel_keeps hb35 (b := w.heap.size) (o := 0) (v := .slice ad00 gs.length cap00) (by first | (go_simp; done) | assumption)
  have k35_1 := bel_keeps hb35 (b := w.heap.size) (o := 1) (v := .slice ad01 xs01.length cap01) (by first | (go_simp; done) | assumption)
  have k35_2 := bel_keeps hb35 (b := w5.heap.size) (o := 0) (v := .slice a5 PG.length c5) (by first | (go_simp; done) | assumption)
  have k35_3 := bel_keeps hb35 (b := w5.heap.size) (o := 1) (v := .slice b5 xs01.length d5) (by first | (go_simp; done) | assumption)
  have k35_4 := bel_keeps hb35 (b := w7.heap.size) (o := 0) (v := .slice (some ⟨g17, 0, none⟩) gs.length gs.length) (by first | (go_simp; done) | assumption)
  have k35_5 := bel_keeps hb35 (b := w7.heap.size) (o := 1) (v := .slice (some ⟨g27, 0, none⟩) xs01.length xs01.length) (by first | (go_simp; done) | assumption)
  have k35_6 := bel_keeps hb35 (b := w11.heap.size) (o := 0) (v := .slice a11 PG.length c11) (by first | (go_simp; done) | assumption)
  have k35_7 := bel_keeps hb35 (b := w11.heap.size) (o := 1) (v := .slice b11 xs01.length d11) (by first | (go_simp; done) | assumption)
  have k35_8 := bel_keeps hb35 (b := w31.heap.size) (o := 0) (v := .slice a31 PG.length c31) (by first | (go_simp; done) | assumption)
  have k35_9 := bel_keeps hb35 (b := w31.heap.size) (o := 1) (v := .slice b31 xs01.length d31) (by first | (go_simp; done) | assumption)
  clear k34_0 k34_1 k34_2 k34_3 k34_4 k34_5 k34_6 k34_7 k34_8 k34_9
  go_wp2_with fail
  refine (heldIntS_any PW.length (1 + (PG.length * 3 : Nat) + xs01.length) _ _ _ (by omega) (by omega) hF1 (ho26.keep (fun a ha => (by have hh := ik11 a ha; exact (by (repeat (first | with_reducible exact Kp.refl _ _ | (with_reducible refine Kp.rng ?_ (by assumption) ?_) | (with_reducible refine Kp.below ?_ (by assumption)) | (with_reducible refine Kp.grown ?_ (by assumption) ?_) | (with_reducible refine Kp.alloc ?_ _) | (with_reducible refine Kp.drew ?_) | (with_reducible refine Kp.drewN ?_ _) | (with_reducible refine Kp.setCell ?_ _ ?_))) <;> (first | omega | (simp; done) | (simp; omega)))))).rd).mono ?_
  rintro e _ ⟨rfl, rfl⟩
  go_wp2_with fail
  go_ret
  exact ⟨rfl, (by (repeat (first | with_reducible exact Below.refl _ _ | (with_reducible refine bel_next ?_ ?_ (by assumption)) | (with_reducible refine Below.alloc ?_ ?_ _) | (with_reducible refine Below.drew ?_) | (with_reducible refine below_drewN ?_ _) | (with_reducible refine Below.setCell ?_ ?_ _))) <;> (first | omega | (simp; done) | (simp; omega)))⟩
end Go.Proofs.Ytfcijloiebnloaa

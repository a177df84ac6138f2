/- The walk of the law FnExactWordConst. -/
import Derived.Test.YtfcijloiebnloaaCircM
import Derived.Test.YtfcijloiebnloaaWordF
import Derived.Test.YtfcijloiebnloaaMarkW
import Derived.Test.YtfcijloiebnloaaWordC
import Derived.Test.YtfcijloiebnloaaShare
import Derived.Deep.RegionHeld3
namespace Go.Proofs.Ytfcijloiebnloaa
open Go.RowKit
set_option linter.unusedVariables false
set_option linter.unusedSimpArgs false

set_option maxRecDepth 20000 in
set_option maxHeartbeats 16000000 in
theorem walk_FnExactWordConst (w : World) (ns00 : List Int) (len00 : Nat) (ad00 : Option Addr) (cap00 : Nat) (e00 : ns00.length = len00 * 3) (hm00 : len00 ≤ maxLen) (hr00 : RdC w ad00 (I64 ns00)) (xs01 : List Int) (ad01 : Option Addr) (cap01 : Nat) (hm01 : xs01.length ≤ maxLen) (hr01 : RdC w ad01 (I64 xs01)) (a1 : Int) {P1 : Prop} (_hw1 : P1) :
    Calls Try.prog 3 #[.agg #[.slice ad00 len00 cap00, .slice ad01 xs01.length cap01], .int .i64 a1] w fun e w' => e = .returned (.bool true) ∧ Below w.heap.size w w' := by
  obtain ⟨gs, hl0, hx0⟩ := gt_of_ints len00 ns00 e00
  rw [← hx0] at hr00
  subst hl0
  clear e00 hx0 ns00
  have HR0 := Lib.hid hr00
  have HR1 := Lib.hid hr01
  clear hr00 hr01
  by_cases hsz : (gs.length : Int) + xs01.length ≤ 1048576
  case neg =>
    have e1 : (if (gs.length : Int) + xs01.length ≤ 1048576 then 1048576 - (gs.length : Int) - xs01.length else -1) = -1 := if_neg hsz
    have E1 := Lib.hid e1
    clear e1
    go_enter Try.func3, Try.ntmps3
    go_wp2_with fail
    refine (szCircuit_any gs.length xs01.length _ _ _ _ _ hm00 hm01 1048576 (by omega) (by omega)).mono ?_
    rintro e w1 ⟨rfl, hb1⟩
    rw [E1.out]
    go_wp2_with fail
    go_ret
    exact ⟨rfl, (by (repeat (first | with_reducible exact Below.refl _ _ | (with_reducible refine bel_next ?_ ?_ (by assumption)) | (with_reducible refine Below.alloc ?_ ?_ _) | (with_reducible refine Below.drew ?_) | (with_reducible refine below_drewN ?_ _) | (with_reducible refine Below.setCell ?_ ?_ _))) <;> (first | omega | (simp; done) | (simp; omega)))⟩
  have e1 : (if (gs.length : Int) + xs01.length ≤ 1048576 then 1048576 - (gs.length : Int) - xs01.length else -1) = 1048576 - gs.length - xs01.length := if_pos hsz
  obtain ⟨ll, hll⟩ : ∃ l : Int, l = 1048576 - (gs.length : Int) - xs01.length := ⟨_, rfl⟩
  have E1 := Lib.hid (e1.trans hll.symm)
  have hl0 : 0 ≤ ll := by omega
  have hl1 : ll ≤ 1048576 := by omega
  clear e1 hll
  have hm0 : gs.length ≤ 1048576 := by omega
  have hm1 : xs01.length ≤ 1048576 := by omega
  have hneg : decide (ll < 0) = false := decide_eq_false (by omega)
  obtain ⟨PG, hPG⟩ : ∃ x, x = (wP (roomB gs xs01 && inB a1 0 15) (constP a1 gs) gs []).1 := ⟨_, rfl⟩
  obtain ⟨PW, hPW⟩ : ∃ x, x = (wP (roomB gs xs01 && inB a1 0 15) (constP a1 gs) gs []).2 := ⟨_, rfl⟩
  have hF0 : PG.length ≤ 1048576 := by rw [hPG]; exact wP_len (fun hq => by have := (constP_len a1 gs).1; have := roomB_room (by simp only [Bool.and_eq_true] at hq; exact hq.1); omega) hm0
  have hF1 : PW.length ≤ 1048576 := by rw [hPW]; exact wP_len2 (fun _ => by have := (constP_len a1 gs).2; omega)
  have HPG := Lib.hid hPG
  have HPW := Lib.hid hPW
  clear hPG hPW
  go_enter Try.func3, Try.ntmps3
  go_wp2_with fail
  refine (szCircuit_any gs.length xs01.length _ _ _ _ _ hm00 hm01 1048576 (by omega) (by omega)).mono ?_
  rintro e w1 ⟨rfl, hb1⟩
  rw [E1.out]
  have z1 := hb1.size
  (try simp at z1)
  have y1_0 : w.heap.size < w1.heap.size := (by omega)
  have k1_0 := bel_keeps hb1 (b := w.heap.size) (o := 0) (v := .slice ad00 gs.length cap00) (by first | (go_simp; done) | assumption)
  have k1_1 := bel_keeps hb1 (b := w.heap.size) (o := 1) (v := .slice ad01 xs01.length cap01) (by first | (go_simp; done) | assumption)
  go_wp2_with fail
  refine (toCircuit_any gs xs01 _ _ _ _ _ hm0 hm1 (HR0.out.below (by (repeat (first | with_reducible exact Below.refl _ _ | (with_reducible refine bel_next ?_ ?_ (by assumption)) | (with_reducible refine Below.alloc ?_ ?_ _) | (with_reducible refine Below.drew ?_) | (with_reducible refine below_drewN ?_ _) | (with_reducible refine Below.setCell ?_ ?_ _))) <;> (first | omega | (simp; done) | (simp; omega)))) (HR1.out.below (by (repeat (first | with_reducible exact Below.refl _ _ | (with_reducible refine bel_next ?_ ?_ (by assumption)) | (with_reducible refine Below.alloc ?_ ?_ _) | (with_reducible refine Below.drew ?_) | (with_reducible refine below_drewN ?_ _) | (with_reducible refine Below.setCell ?_ ?_ _))) <;> (first | omega | (simp; done) | (simp; omega))))).mono ?_
  rintro e w2 ⟨g12, g22, rfl, o12, o22, lt2, hb2⟩
  have z2 := hb2.size
  (try simp at z2)
  have y2_0 : w.heap.size < w2.heap.size := (by omega)
  have k2_0 := bel_keeps hb2 (b := w.heap.size) (o := 0) (v := .slice ad00 gs.length cap00) (by first | (go_simp; done) | assumption)
  have k2_1 := bel_keeps hb2 (b := w.heap.size) (o := 1) (v := .slice ad01 xs01.length cap01) (by first | (go_simp; done) | assumption)
  clear k1_0 k1_1
  have i12 := o12.ins
  have i22 := o22.ins
  have ne2 : ∀ x y, (some ⟨g12, 0, none⟩ : Option Addr) = some x → (some ⟨g22, 0, none⟩ : Option Addr) = some y → x.block ≠ y.block := by (intro x y hx hy; obtain rfl := Option.some.inj hx; obtain rfl := Option.some.inj hy; simp; omega)
  go_wp2_with fail
  have hcc := sWordConst_any gs xs01 (some ⟨g12, 0, none⟩) (some ⟨g22, 0, none⟩) gs.length xs01.length w2 hm0 hm1 (o12.keep (fun a ha => (by have hh := i12 a ha; exact (by (repeat (first | with_reducible exact Kp.refl _ _ | (with_reducible refine Kp.rng ?_ (by assumption) ?_) | (with_reducible refine Kp.below ?_ (by assumption)) | (with_reducible refine Kp.grown ?_ (by assumption) ?_) | (with_reducible refine Kp.alloc ?_ _) | (with_reducible refine Kp.drew ?_) | (with_reducible refine Kp.drewN ?_ _) | (with_reducible refine Kp.setCell ?_ _ ?_))) <;> (first | omega | (simp; done) | (simp; omega)))))).rd (o22.keep (fun a ha => (by have hh := i22 a ha; exact (by (repeat (first | with_reducible exact Kp.refl _ _ | (with_reducible refine Kp.rng ?_ (by assumption) ?_) | (with_reducible refine Kp.below ?_ (by assumption)) | (with_reducible refine Kp.grown ?_ (by assumption) ?_) | (with_reducible refine Kp.alloc ?_ _) | (with_reducible refine Kp.drew ?_) | (with_reducible refine Kp.drewN ?_ _) | (with_reducible refine Kp.setCell ?_ _ ?_))) <;> (first | omega | (simp; done) | (simp; omega)))))).rd a1
  rw [← HPG.out, ← HPW.out] at hcc
  refine hcc.mono ?_
  clear hcc
  rintro e w3 ⟨a3, c3, b3, d3, x3, y3, rfl, oc3, uc3, ne3, v3, na3, nb3, hb3⟩
  have z3 := hb3.size
  (try simp at z3)
  have y3_0 : w.heap.size < w3.heap.size := (by omega)
  have k3_0 := bel_keeps hb3 (b := w.heap.size) (o := 0) (v := .slice ad00 gs.length cap00) (by first | (go_simp; done) | assumption)
  have k3_1 := bel_keeps hb3 (b := w.heap.size) (o := 1) (v := .slice ad01 xs01.length cap01) (by first | (go_simp; done) | assumption)
  clear k2_0 k2_1
  have ic3 := oc3.ins
  have jc3 := uc3.ins
  have ik3 := v3.ins
  go_wp2_with fail
  obtain ⟨w4, hw4⟩ : ∃ W, W = w3.alloc (.cells #[.slice a3 PG.length c3, .slice b3 xs01.length d3] 29) := ⟨_, rfl⟩
  rw [← hw4]
  have hb4 : Below w3.heap.size w3 w4 := by rw [hw4]; exact (Below.refl _ _).alloc (Nat.le_refl _) _
  have x4 : w3.heap.size < w4.heap.size := by rw [hw4]; simp
  have z4 := hb4.size
  (try simp at z4)
  have y4_0 : w.heap.size < w4.heap.size := (by omega)
  have k4_0 := bel_keeps hb4 (b := w.heap.size) (o := 0) (v := .slice ad00 gs.length cap00) (by first | (go_simp; done) | assumption)
  have k4_1 := bel_keeps hb4 (b := w.heap.size) (o := 1) (v := .slice ad01 xs01.length cap01) (by first | (go_simp; done) | assumption)
  clear k3_0 k3_1
  have kb4_0 : w4.cell? ⟨w3.heap.size, 0, none⟩ = some (.slice a3 PG.length c3) := by rw [hw4]; go_simp
  have kb4_1 : w4.cell? ⟨w3.heap.size, 1, none⟩ = some (.slice b3 xs01.length d3) := by rw [hw4]; go_simp
  clear hw4
  go_wp2_with fail
  refine (toCircuit_any gs xs01 _ _ _ _ _ hm0 hm1 (HR0.out.below (by (repeat (first | with_reducible exact Below.refl _ _ | (with_reducible refine bel_next ?_ ?_ (by assumption)) | (with_reducible refine Below.alloc ?_ ?_ _) | (with_reducible refine Below.drew ?_) | (with_reducible refine below_drewN ?_ _) | (with_reducible refine Below.setCell ?_ ?_ _))) <;> (first | omega | (simp; done) | (simp; omega)))) (HR1.out.below (by (repeat (first | with_reducible exact Below.refl _ _ | (with_reducible refine bel_next ?_ ?_ (by assumption)) | (with_reducible refine Below.alloc ?_ ?_ _) | (with_reducible refine Below.drew ?_) | (with_reducible refine below_drewN ?_ _) | (with_reducible refine Below.setCell ?_ ?_ _))) <;> (first | omega | (simp; done) | (simp; omega))))).mono ?_
  rintro e w5 ⟨g15, g25, rfl, o15, o25, lt5, hb5⟩
  have z5 := hb5.size
  (try simp at z5)
  have y5_0 : w.heap.size < w5.heap.size := (by omega)
  have y5_1 : w3.heap.size < w5.heap.size := (by omega)
  have k5_0 := bel_keeps hb5 (b := w.heap.size) (o := 0) (v := .slice ad00 gs.length cap00) (by first | (go_simp; done) | assumption)
  have k5_1 := bel_keeps hb5 (b := w.heap.size) (o := 1) (v := .slice ad01 xs01.length cap01) (by first | (go_simp; done) | assumption)
  have k5_2 := bel_keeps hb5 (b := w3.heap.size) (o := 0) (v := .slice a3 PG.length c3) (by first | (go_simp; done) | assumption)
  have k5_3 := bel_keeps hb5 (b := w3.heap.size) (o := 1) (v := .slice b3 xs01.length d3) (by first | (go_simp; done) | assumption)
  clear k4_0 k4_1 kb4_0 kb4_1
  have i15 := o15.ins
  have i25 := o25.ins
  have ne5 : ∀ x y, (some ⟨g15, 0, none⟩ : Option Addr) = some x → (some ⟨g25, 0, none⟩ : Option Addr) = some y → x.block ≠ y.block := by (intro x y hx hy; obtain rfl := Option.some.inj hx; obtain rfl := Option.some.inj hy; simp; omega)
  go_wp2_with fail
  obtain ⟨w6, hw6⟩ : ∃ W, W = w5.alloc (.cells #[.slice (some ⟨g15, 0, none⟩) gs.length gs.length, .slice (some ⟨g25, 0, none⟩) xs01.length xs01.length] 29) := ⟨_, rfl⟩
  rw [← hw6]
  have hb6 : Below w5.heap.size w5 w6 := by rw [hw6]; exact (Below.refl _ _).alloc (Nat.le_refl _) _
  have x6 : w5.heap.size < w6.heap.size := by rw [hw6]; simp
  have z6 := hb6.size
  (try simp at z6)
  have y6_0 : w.heap.size < w6.heap.size := (by omega)
  have y6_1 : w3.heap.size < w6.heap.size := (by omega)
  have k6_0 := bel_keeps hb6 (b := w.heap.size) (o := 0) (v := .slice ad00 gs.length cap00) (by first | (go_simp; done) | assumption)
  have k6_1 := bel_keeps hb6 (b := w.heap.size) (o := 1) (v := .slice ad01 xs01.length cap01) (by first | (go_simp; done) | assumption)
  have k6_2 := bel_keeps hb6 (b := w3.heap.size) (o := 0) (v := .slice a3 PG.length c3) (by first | (go_simp; done) | assumption)
  have k6_3 := bel_keeps hb6 (b := w3.heap.size) (o := 1) (v := .slice b3 xs01.length d3) (by first | (go_simp; done) | assumption)
  clear k5_0 k5_1 k5_2 k5_3
  have kb6_0 : w6.cell? ⟨w5.heap.size, 0, none⟩ = some (.slice (some ⟨g15, 0, none⟩) gs.length gs.length) := by rw [hw6]; go_simp
  have kb6_1 : w6.cell? ⟨w5.heap.size, 1, none⟩ = some (.slice (some ⟨g25, 0, none⟩) xs01.length xs01.length) := by rw [hw6]; go_simp
  clear hw6
  go_wp2_with fail
  have hcc := iWordConst_any gs xs01 (some ⟨g15, 0, none⟩) (some ⟨g25, 0, none⟩) gs.length xs01.length w6 hm0 hm1 (o15.keep (fun a ha => (by have hh := i15 a ha; exact (by (repeat (first | with_reducible exact Kp.refl _ _ | (with_reducible refine Kp.rng ?_ (by assumption) ?_) | (with_reducible refine Kp.below ?_ (by assumption)) | (with_reducible refine Kp.grown ?_ (by assumption) ?_) | (with_reducible refine Kp.alloc ?_ _) | (with_reducible refine Kp.drew ?_) | (with_reducible refine Kp.drewN ?_ _) | (with_reducible refine Kp.setCell ?_ _ ?_))) <;> (first | omega | (simp; done) | (simp; omega)))))).rd (o25.keep (fun a ha => (by have hh := i25 a ha; exact (by (repeat (first | with_reducible exact Kp.refl _ _ | (with_reducible refine Kp.rng ?_ (by assumption) ?_) | (with_reducible refine Kp.below ?_ (by assumption)) | (with_reducible refine Kp.grown ?_ (by assumption) ?_) | (with_reducible refine Kp.alloc ?_ _) | (with_reducible refine Kp.drew ?_) | (with_reducible refine Kp.drewN ?_ _) | (with_reducible refine Kp.setCell ?_ _ ?_))) <;> (first | omega | (simp; done) | (simp; omega)))))).rd a1
  rw [← HPG.out, ← HPW.out] at hcc
  refine hcc.mono ?_
  clear hcc
  rintro e w7 ⟨a7, c7, b7, d7, x7, y7, rfl, oc7, uc7, ne7, v7, na7, nb7, hb7⟩
  have z7 := hb7.size
  (try simp at z7)
  have y7_0 : w.heap.size < w7.heap.size := (by omega)
  have y7_1 : w3.heap.size < w7.heap.size := (by omega)
  have y7_2 : w5.heap.size < w7.heap.size := (by omega)
  have k7_0 := bel_keeps hb7 (b := w.heap.size) (o := 0) (v := .slice ad00 gs.length cap00) (by first | (go_simp; done) | assumption)
  have k7_1 := bel_keeps hb7 (b := w.heap.size) (o := 1) (v := .slice ad01 xs01.length cap01) (by first | (go_simp; done) | assumption)
  have k7_2 := bel_keeps hb7 (b := w3.heap.size) (o := 0) (v := .slice a3 PG.length c3) (by first | (go_simp; done) | assumption)
  have k7_3 := bel_keeps hb7 (b := w3.heap.size) (o := 1) (v := .slice b3 xs01.length d3) (by first | (go_simp; done) | assumption)
  have k7_4 := bel_keeps hb7 (b := w5.heap.size) (o := 0) (v := .slice (some ⟨g15, 0, none⟩) gs.length gs.length) (by first | (go_simp; done) | assumption)
  have k7_5 := bel_keeps hb7 (b := w5.heap.size) (o := 1) (v := .slice (some ⟨g25, 0, none⟩) xs01.length xs01.length) (by first | (go_simp; done) | assumption)
  clear k6_0 k6_1 k6_2 k6_3 kb6_0 kb6_1
  have ic7 := oc7.ins
  have jc7 := uc7.ins
  have ik7 := v7.ins
  go_wp2_with fail
  obtain ⟨w8, hw8⟩ : ∃ W, W = w7.alloc (.cells #[.slice a7 PG.length c7, .slice b7 xs01.length d7] 29) := ⟨_, rfl⟩
  rw [← hw8]
  have hb8 : Below w7.heap.size w7 w8 := by rw [hw8]; exact (Below.refl _ _).alloc (Nat.le_refl _) _
  have x8 : w7.heap.size < w8.heap.size := by rw [hw8]; simp
  have z8 := hb8.size
  (try simp at z8)
  have y8_0 : w.heap.size < w8.heap.size := (by omega)
  have y8_1 : w3.heap.size < w8.heap.size := (by omega)
  have y8_2 : w5.heap.size < w8.heap.size := (by omega)
  have k8_0 := bel_keeps hb8 (b := w.heap.size) (o := 0) (v := .slice ad00 gs.length cap00) (by first | (go_simp; done) | assumption)
  have k8_1 := bel_keeps hb8 (b := w.heap.size) (o := 1) (v := .slice ad01 xs01.length cap01) (by first | (go_simp; done) | assumption)
  have k8_2 := bel_keeps hb8 (b := w3.heap.size) (o := 0) (v := .slice a3 PG.length c3) (by first | (go_simp; done) | assumption)
  have k8_3 := bel_keeps hb8 (b := w3.heap.size) (o := 1) (v := .slice b3 xs01.length d3) (by first | (go_simp; done) | assumption)
  have k8_4 := bel_keeps hb8 (b := w5.heap.size) (o := 0) (v := .slice (some ⟨g15, 0, none⟩) gs.length gs.length) (by first | (go_simp; done) | assumption)
  have k8_5 := bel_keeps hb8 (b := w5.heap.size) (o := 1) (v := .slice (some ⟨g25, 0, none⟩) xs01.length xs01.length) (by first | (go_simp; done) | assumption)
  clear k7_0 k7_1 k7_2 k7_3 k7_4 k7_5
  have kb8_0 : w8.cell? ⟨w7.heap.size, 0, none⟩ = some (.slice a7 PG.length c7) := by rw [hw8]; go_simp
  have kb8_1 : w8.cell? ⟨w7.heap.size, 1, none⟩ = some (.slice b7 xs01.length d7) := by rw [hw8]; go_simp
  clear hw8
  go_wp2_with fail
  refine (eqCircuit_same PG xs01 _ _ _ _ _ _ _ _ _ hF0 hm1 (oc7.keep (fun a ha => (by have hh := ic7 a ha; exact (by (repeat (first | with_reducible exact Kp.refl _ _ | (with_reducible refine Kp.rng ?_ (by assumption) ?_) | (with_reducible refine Kp.below ?_ (by assumption)) | (with_reducible refine Kp.grown ?_ (by assumption) ?_) | (with_reducible refine Kp.alloc ?_ _) | (with_reducible refine Kp.drew ?_) | (with_reducible refine Kp.drewN ?_ _) | (with_reducible refine Kp.setCell ?_ _ ?_))) <;> (first | omega | (simp; done) | (simp; omega)))))).rd (uc7.keep (fun a ha => (by have hh := jc7 a ha; exact (by (repeat (first | with_reducible exact Kp.refl _ _ | (with_reducible refine Kp.rng ?_ (by assumption) ?_) | (with_reducible refine Kp.below ?_ (by assumption)) | (with_reducible refine Kp.grown ?_ (by assumption) ?_) | (with_reducible refine Kp.alloc ?_ _) | (with_reducible refine Kp.drew ?_) | (with_reducible refine Kp.drewN ?_ _) | (with_reducible refine Kp.setCell ?_ _ ?_))) <;> (first | omega | (simp; done) | (simp; omega)))))).rd (oc3.keep (fun a ha => (by have hh := ic3 a ha; exact (by (repeat (first | with_reducible exact Kp.refl _ _ | (with_reducible refine Kp.rng ?_ (by assumption) ?_) | (with_reducible refine Kp.below ?_ (by assumption)) | (with_reducible refine Kp.grown ?_ (by assumption) ?_) | (with_reducible refine Kp.alloc ?_ _) | (with_reducible refine Kp.drew ?_) | (with_reducible refine Kp.drewN ?_ _) | (with_reducible refine Kp.setCell ?_ _ ?_))) <;> (first | omega | (simp; done) | (simp; omega)))))).rd (uc3.keep (fun a ha => (by have hh := jc3 a ha; exact (by (repeat (first | with_reducible exact Kp.refl _ _ | (with_reducible refine Kp.rng ?_ (by assumption) ?_) | (with_reducible refine Kp.below ?_ (by assumption)) | (with_reducible refine Kp.grown ?_ (by assumption) ?_) | (with_reducible refine Kp.alloc ?_ _) | (with_reducible refine Kp.drew ?_) | (with_reducible refine Kp.drewN ?_ _) | (with_reducible refine Kp.setCell ?_ _ ?_))) <;> (first | omega | (simp; done) | (simp; omega)))))).rd).mono ?_
  rintro e w9 ⟨rfl, hb9⟩
  have z9 := hb9.size
  (try simp at z9)
  have y9_0 : w.heap.size < w9.heap.size := (by omega)
  have y9_1 : w3.heap.size < w9.heap.size := (by omega)
  have y9_2 : w5.heap.size < w9.heap.size := (by omega)
  have y9_3 : w7.heap.size < w9.heap.size := (by omega)
  have k9_0 := bel_keeps hb9 (b := w.heap.size) (o := 0) (v := .slice ad00 gs.length cap00) (by first | (go_simp; done) | assumption)
  have k9_1 := bel_keeps hb9 (b := w.heap.size) (o := 1) (v := .slice ad01 xs01.length cap01) (by first | (go_simp; done) | assumption)
  have k9_2 := bel_keeps hb9 (b := w3.heap.size) (o := 0) (v := .slice a3 PG.length c3) (by first | (go_simp; done) | assumption)
  have k9_3 := bel_keeps hb9 (b := w3.heap.size) (o := 1) (v := .slice b3 xs01.length d3) (by first | (go_simp; done) | assumption)
  have k9_4 := bel_keeps hb9 (b := w5.heap.size) (o := 0) (v := .slice (some ⟨g15, 0, none⟩) gs.length gs.length) (by first | (go_simp; done) | assumption)
  have k9_5 := bel_keeps hb9 (b := w5.heap.size) (o := 1) (v := .slice (some ⟨g25, 0, none⟩) xs01.length xs01.length) (by first | (go_simp; done) | assumption)
  have k9_6 := bel_keeps hb9 (b := w7.heap.size) (o := 0) (v := .slice a7 PG.length c7) (by first | (go_simp; done) | assumption)
  have k9_7 := bel_keeps hb9 (b := w7.heap.size) (o := 1) (v := .slice b7 xs01.length d7) (by first | (go_simp; done) | assumption)
  clear k8_0 k8_1 k8_2 k8_3 k8_4 k8_5 kb8_0 kb8_1
  go_wp2_with fail
  refine (eqIntS_same PW _ _ _ _ _ hF1 (v7.keep (fun a ha => (by have hh := ik7 a ha; exact (by (repeat (first | with_reducible exact Kp.refl _ _ | (with_reducible refine Kp.rng ?_ (by assumption) ?_) | (with_reducible refine Kp.below ?_ (by assumption)) | (with_reducible refine Kp.grown ?_ (by assumption) ?_) | (with_reducible refine Kp.alloc ?_ _) | (with_reducible refine Kp.drew ?_) | (with_reducible refine Kp.drewN ?_ _) | (with_reducible refine Kp.setCell ?_ _ ?_))) <;> (first | omega | (simp; done) | (simp; omega)))))).rd (v3.keep (fun a ha => (by have hh := ik3 a ha; exact (by (repeat (first | with_reducible exact Kp.refl _ _ | (with_reducible refine Kp.rng ?_ (by assumption) ?_) | (with_reducible refine Kp.below ?_ (by assumption)) | (with_reducible refine Kp.grown ?_ (by assumption) ?_) | (with_reducible refine Kp.alloc ?_ _) | (with_reducible refine Kp.drew ?_) | (with_reducible refine Kp.drewN ?_ _) | (with_reducible refine Kp.setCell ?_ _ ?_))) <;> (first | omega | (simp; done) | (simp; omega)))))).rd).mono ?_
  rintro e _ ⟨rfl, m10, rfl⟩
  obtain ⟨w10, hw10⟩ : ∃ W, W = w9.drewN m10 := ⟨_, rfl⟩
  rw [← hw10]
  have hb10 : Below w9.heap.size w9 w10 := by rw [hw10]; exact below_drewN (Below.refl _ _) _
  clear hw10
  have z10 := hb10.size
  (try simp at z10)
  have y10_0 : w.heap.size < w10.heap.size := (by omega)
  have y10_1 : w3.heap.size < w10.heap.size := (by omega)
  have y10_2 : w5.heap.size < w10.heap.size := (by omega)
  have y10_3 : w7.heap.size < w10.heap.size := (by omega)
  have k10_0 := bel_keeps hb10 (b := w.heap.size) (o := 0) (v := .slice ad00 gs.length cap00) (by first | (go_simp; done) | assumption)
  have k10_1 := bel_keeps hb10 (b := w.heap.size) (o := 1) (v := .slice ad01 xs01.length cap01) (by first | (go_simp; done) | assumption)
  have k10_2 := bel_keeps hb10 (b := w3.heap.size) (o := 0) (v := .slice a3 PG.length c3) (by first | (go_simp; done) | assumption)
  have k10_3 := bel_keeps hb10 (b := w3.heap.size) (o := 1) (v := .slice b3 xs01.length d3) (by first | (go_simp; done) | assumption)
  have k10_4 := bel_keeps hb10 (b := w5.heap.size) (o := 0) (v := .slice (some ⟨g15, 0, none⟩) gs.length gs.length) (by first | (go_simp; done) | assumption)
  have k10_5 := bel_keeps hb10 (b := w5.heap.size) (o := 1) (v := .slice (some ⟨g25, 0, none⟩) xs01.length xs01.length) (by first | (go_simp; done) | assumption)
  have k10_6 := bel_keeps hb10 (b := w7.heap.size) (o := 0) (v := .slice a7 PG.length c7) (by first | (go_simp; done) | assumption)
  have k10_7 := bel_keeps hb10 (b := w7.heap.size) (o := 1) (v := .slice b7 xs01.length d7) (by first | (go_simp; done) | assumption)
  clear k9_0 k9_1 k9_2 k9_3 k9_4 k9_5 k9_6 k9_7
  go_wp2_with fail
  apply wp_share2 (F := fun (W : World) (p111 : Nat) (p211 : Nat) => Below w10.heap.size w10 W ∧ True)
  case h1 =>
    go_region_held3 (fun w' => w'.cell? ⟨w5.heap.size, 0, none⟩ = some (.slice (some ⟨g15, 0, none⟩) gs.length gs.length) ∧ w'.cell? ⟨w5.heap.size, 1, none⟩ = some (.slice (some ⟨g25, 0, none⟩) xs01.length xs01.length) ∧ w'.cell? ⟨w.heap.size, 0, none⟩ = some (.slice ad00 gs.length cap00) ∧ w'.cell? ⟨w.heap.size, 1, none⟩ = some (.slice ad01 xs01.length cap01))
      (first | go_keep)
      (first | (go_at_call 14; refine (toCircuit_any gs xs01 _ _ _ _ _ hm0 hm1 (HR0.out.below (by (repeat (first | with_reducible exact Below.refl _ _ | (with_reducible refine bel_next ?_ ?_ (by assumption)) | (with_reducible refine Below.alloc ?_ ?_ _) | (with_reducible refine Below.drew ?_) | (with_reducible refine below_drewN ?_ _) | (with_reducible refine Below.setCell ?_ ?_ _))) <;> (first | omega | (simp; done) | (simp; omega)))) (HR1.out.below (by (repeat (first | with_reducible exact Below.refl _ _ | (with_reducible refine bel_next ?_ ?_ (by assumption)) | (with_reducible refine Below.alloc ?_ ?_ _) | (with_reducible refine Below.drew ?_) | (with_reducible refine below_drewN ?_ _) | (with_reducible refine Below.setCell ?_ ?_ _))) <;> (first | omega | (simp; done) | (simp; omega))))).mono ?_; rintro e v1 ⟨p111, p211, rfl, hp1, hp2, hp3, hv1⟩; have zv1 := hv1.size; (try simp at zv1); have yv1_0 : w5.heap.size < v1.heap.size := (by omega); have nv1_0 : w5.heap.size ≠ v1.heap.size := (by omega); have mv1_0 : v1.heap.size ≠ w5.heap.size := (by omega); have yv1_1 : w.heap.size < v1.heap.size := (by omega); have nv1_1 : w.heap.size ≠ v1.heap.size := (by omega); have mv1_1 : v1.heap.size ≠ w.heap.size := (by omega); have kv1_0 := bel_keeps hv1 (b := w5.heap.size) (o := 0) (v := .slice (some ⟨g15, 0, none⟩) gs.length gs.length) (by first | (go_simp; done) | assumption); have kv1_1 := bel_keeps hv1 (b := w5.heap.size) (o := 1) (v := .slice (some ⟨g25, 0, none⟩) xs01.length xs01.length) (by first | (go_simp; done) | assumption); have kv1_2 := bel_keeps hv1 (b := w.heap.size) (o := 0) (v := .slice ad00 gs.length cap00) (by first | (go_simp; done) | assumption); have kv1_3 := bel_keeps hv1 (b := w.heap.size) (o := 1) (v := .slice ad01 xs01.length cap01) (by first | (go_simp; done) | assumption)) | (go_at_call 16; refine (eqCircuit_same gs xs01 _ _ _ _ _ _ _ _ _ hm0 hm1 (o15.keep (fun a ha => (by have hh := i15 a ha; exact (by (repeat (first | with_reducible exact Kp.refl _ _ | (with_reducible refine Kp.rng ?_ (by assumption) ?_) | (with_reducible refine Kp.below ?_ (by assumption)) | (with_reducible refine Kp.grown ?_ (by assumption) ?_) | (with_reducible refine Kp.alloc ?_ _) | (with_reducible refine Kp.drew ?_) | (with_reducible refine Kp.drewN ?_ _) | (with_reducible refine Kp.setCell ?_ _ ?_))) <;> (first | omega | (simp; done) | (simp; omega)))))).rd (o25.keep (fun a ha => (by have hh := i25 a ha; exact (by (repeat (first | with_reducible exact Kp.refl _ _ | (with_reducible refine Kp.rng ?_ (by assumption) ?_) | (with_reducible refine Kp.below ?_ (by assumption)) | (with_reducible refine Kp.grown ?_ (by assumption) ?_) | (with_reducible refine Kp.alloc ?_ _) | (with_reducible refine Kp.drew ?_) | (with_reducible refine Kp.drewN ?_ _) | (with_reducible refine Kp.setCell ?_ _ ?_))) <;> (first | omega | (simp; done) | (simp; omega)))))).rd (hp1.rd.below (by (repeat (first | with_reducible exact Below.refl _ _ | (with_reducible refine bel_next ?_ ?_ (by assumption)) | (with_reducible refine Below.alloc ?_ ?_ _) | (with_reducible refine Below.drew ?_) | (with_reducible refine below_drewN ?_ _) | (with_reducible refine Below.setCell ?_ ?_ _))) <;> (first | omega | (simp; done) | (simp; omega)))) (hp2.rd.below (by (repeat (first | with_reducible exact Below.refl _ _ | (with_reducible refine bel_next ?_ ?_ (by assumption)) | (with_reducible refine Below.alloc ?_ ?_ _) | (with_reducible refine Below.drew ?_) | (with_reducible refine below_drewN ?_ _) | (with_reducible refine Below.setCell ?_ ?_ _))) <;> (first | omega | (simp; done) | (simp; omega))))).mono ?_; rintro e v2 ⟨rfl, hv2⟩; have zv2 := hv2.size; (try simp at zv2); have yv2_0 : w5.heap.size < v2.heap.size := (by omega); have nv2_0 : w5.heap.size ≠ v2.heap.size := (by omega); have mv2_0 : v2.heap.size ≠ w5.heap.size := (by omega); have yv2_1 : w.heap.size < v2.heap.size := (by omega); have nv2_1 : w.heap.size ≠ v2.heap.size := (by omega); have mv2_1 : v2.heap.size ≠ w.heap.size := (by omega); have kv2_0 := bel_keeps hv2 (b := w5.heap.size) (o := 0) (v := .slice (some ⟨g15, 0, none⟩) gs.length gs.length) (by first | (go_simp; done) | assumption); have kv2_1 := bel_keeps hv2 (b := w5.heap.size) (o := 1) (v := .slice (some ⟨g25, 0, none⟩) xs01.length xs01.length) (by first | (go_simp; done) | assumption); have kv2_2 := bel_keeps hv2 (b := w.heap.size) (o := 0) (v := .slice ad00 gs.length cap00) (by first | (go_simp; done) | assumption); have kv2_3 := bel_keeps hv2 (b := w.heap.size) (o := 1) (v := .slice ad01 xs01.length cap01) (by first | (go_simp; done) | assumption)))
    ·
      refine ⟨rfl, p111, p211, ⟨(by (repeat (first | with_reducible exact Below.refl _ _ | (with_reducible refine bel_next ?_ ?_ (by assumption)) | (with_reducible refine Below.alloc ?_ ?_ _) | (with_reducible refine Below.drew ?_) | (with_reducible refine below_drewN ?_ _) | (with_reducible refine Below.setCell ?_ ?_ _))) <;> (first | omega | (simp; done) | (simp; omega))), trivial⟩, ?_⟩
      generalize v2 = W
      rfl
  rintro w11 p111 p211 ⟨hb11, r11_0⟩
  have z11 := hb11.size
  (try simp at z11)
  have y11_0 : w.heap.size < w11.heap.size := (by omega)
  have y11_1 : w3.heap.size < w11.heap.size := (by omega)
  have y11_2 : w5.heap.size < w11.heap.size := (by omega)
  have y11_3 : w7.heap.size < w11.heap.size := (by omega)
  have k11_0 := bel_keeps hb11 (b := w.heap.size) (o := 0) (v := .slice ad00 gs.length cap00) (by first | (go_simp; done) | assumption)
  have k11_1 := bel_keeps hb11 (b := w.heap.size) (o := 1) (v := .slice ad01 xs01.length cap01) (by first | (go_simp; done) | assumption)
  have k11_2 := bel_keeps hb11 (b := w3.heap.size) (o := 0) (v := .slice a3 PG.length c3) (by first | (go_simp; done) | assumption)
  have k11_3 := bel_keeps hb11 (b := w3.heap.size) (o := 1) (v := .slice b3 xs01.length d3) (by first | (go_simp; done) | assumption)
  have k11_4 := bel_keeps hb11 (b := w5.heap.size) (o := 0) (v := .slice (some ⟨g15, 0, none⟩) gs.length gs.length) (by first | (go_simp; done) | assumption)
  have k11_5 := bel_keeps hb11 (b := w5.heap.size) (o := 1) (v := .slice (some ⟨g25, 0, none⟩) xs01.length xs01.length) (by first | (go_simp; done) | assumption)
  have k11_6 := bel_keeps hb11 (b := w7.heap.size) (o := 0) (v := .slice a7 PG.length c7) (by first | (go_simp; done) | assumption)
  have k11_7 := bel_keeps hb11 (b := w7.heap.size) (o := 1) (v := .slice b7 xs01.length d7) (by first | (go_simp; done) | assumption)
  clear k10_0 k10_1 k10_2 k10_3 k10_4 k10_5 k10_6 k10_7
  go_wp2_with fail
  refine (markCircuit_any (gs.length) (xs01.length) _ _ _ _ w4.heap.size w5.heap.size 1 (some ⟨g15, 0, none⟩) (some ⟨g25, 0, none⟩) _ _ _ (by omega) (by omega) hm0 hm1 (o15.keep (fun a ha => (by have hh := i15 a ha; exact (by (repeat (first | with_reducible exact Kp.refl _ _ | (with_reducible refine Kp.rng ?_ (by assumption) ?_) | (with_reducible refine Kp.below ?_ (by assumption)) | (with_reducible refine Kp.grown ?_ (by assumption) ?_) | (with_reducible refine Kp.alloc ?_ _) | (with_reducible refine Kp.drew ?_) | (with_reducible refine Kp.drewN ?_ _) | (with_reducible refine Kp.setCell ?_ _ ?_))) <;> (first | omega | (simp; done) | (simp; omega)))))) (o25.keep (fun a ha => (by have hh := i25 a ha; exact (by (repeat (first | with_reducible exact Kp.refl _ _ | (with_reducible refine Kp.rng ?_ (by assumption) ?_) | (with_reducible refine Kp.below ?_ (by assumption)) | (with_reducible refine Kp.grown ?_ (by assumption) ?_) | (with_reducible refine Kp.alloc ?_ _) | (with_reducible refine Kp.drew ?_) | (with_reducible refine Kp.drewN ?_ _) | (with_reducible refine Kp.setCell ?_ _ ?_))) <;> (first | omega | (simp; done) | (simp; omega)))))) i15 i25 ne5 (by omega) (by first | omega | (simp; done) | (simp; omega))).mono ?_
  rintro e w12 ⟨rfl, o112, o212, hb12, hr12⟩
  have z12 := hb12.size
  (try simp at z12)
  have y12_0 : w.heap.size < w12.heap.size := (by omega)
  have y12_1 : w3.heap.size < w12.heap.size := (by omega)
  have y12_2 : w5.heap.size < w12.heap.size := (by omega)
  have y12_3 : w7.heap.size < w12.heap.size := (by omega)
  have k12_0 : w12.cell? ⟨w.heap.size, 0, none⟩ = some (.slice ad00 gs.length cap00) := hr12.keeps (by omega) (by first | (go_simp; done) | assumption)
  have k12_1 : w12.cell? ⟨w.heap.size, 1, none⟩ = some (.slice ad01 xs01.length cap01) := hr12.keeps (by omega) (by first | (go_simp; done) | assumption)
  have k12_2 : w12.cell? ⟨w3.heap.size, 0, none⟩ = some (.slice a3 PG.length c3) := hr12.keeps (by omega) (by first | (go_simp; done) | assumption)
  have k12_3 : w12.cell? ⟨w3.heap.size, 1, none⟩ = some (.slice b3 xs01.length d3) := hr12.keeps (by omega) (by first | (go_simp; done) | assumption)
  have k12_4 : w12.cell? ⟨w5.heap.size, 0, none⟩ = some (.slice (some ⟨g15, 0, none⟩) gs.length gs.length) := hr12.keeps (by omega) (by first | (go_simp; done) | assumption)
  have k12_5 : w12.cell? ⟨w5.heap.size, 1, none⟩ = some (.slice (some ⟨g25, 0, none⟩) xs01.length xs01.length) := hr12.keeps (by omega) (by first | (go_simp; done) | assumption)
  have k12_6 : w12.cell? ⟨w7.heap.size, 0, none⟩ = some (.slice a7 PG.length c7) := hr12.keeps (by omega) (by first | (go_simp; done) | assumption)
  have k12_7 : w12.cell? ⟨w7.heap.size, 1, none⟩ = some (.slice b7 xs01.length d7) := hr12.keeps (by omega) (by first | (go_simp; done) | assumption)
  clear k11_0 k11_1 k11_2 k11_3 k11_4 k11_5 k11_6 k11_7
  go_wp2_with fail
  refine (eqCircuit_same PG xs01 _ _ _ _ _ _ _ _ _ hF0 hm1 (oc7.keep (fun a ha => (by have hh := ic7 a ha; exact (by (repeat (first | with_reducible exact Kp.refl _ _ | (with_reducible refine Kp.rng ?_ (by assumption) ?_) | (with_reducible refine Kp.below ?_ (by assumption)) | (with_reducible refine Kp.grown ?_ (by assumption) ?_) | (with_reducible refine Kp.alloc ?_ _) | (with_reducible refine Kp.drew ?_) | (with_reducible refine Kp.drewN ?_ _) | (with_reducible refine Kp.setCell ?_ _ ?_))) <;> (first | omega | (simp; done) | (simp; omega)))))).rd (uc7.keep (fun a ha => (by have hh := jc7 a ha; exact (by (repeat (first | with_reducible exact Kp.refl _ _ | (with_reducible refine Kp.rng ?_ (by assumption) ?_) | (with_reducible refine Kp.below ?_ (by assumption)) | (with_reducible refine Kp.grown ?_ (by assumption) ?_) | (with_reducible refine Kp.alloc ?_ _) | (with_reducible refine Kp.drew ?_) | (with_reducible refine Kp.drewN ?_ _) | (with_reducible refine Kp.setCell ?_ _ ?_))) <;> (first | omega | (simp; done) | (simp; omega)))))).rd (oc3.keep (fun a ha => (by have hh := ic3 a ha; exact (by (repeat (first | with_reducible exact Kp.refl _ _ | (with_reducible refine Kp.rng ?_ (by assumption) ?_) | (with_reducible refine Kp.below ?_ (by assumption)) | (with_reducible refine Kp.grown ?_ (by assumption) ?_) | (with_reducible refine Kp.alloc ?_ _) | (with_reducible refine Kp.drew ?_) | (with_reducible refine Kp.drewN ?_ _) | (with_reducible refine Kp.setCell ?_ _ ?_))) <;> (first | omega | (simp; done) | (simp; omega)))))).rd (uc3.keep (fun a ha => (by have hh := jc3 a ha; exact (by (repeat (first | with_reducible exact Kp.refl _ _ | (with_reducible refine Kp.rng ?_ (by assumption) ?_) | (with_reducible refine Kp.below ?_ (by assumption)) | (with_reducible refine Kp.grown ?_ (by assumption) ?_) | (with_reducible refine Kp.alloc ?_ _) | (with_reducible refine Kp.drew ?_) | (with_reducible refine Kp.drewN ?_ _) | (with_reducible refine Kp.setCell ?_ _ ?_))) <;> (first | omega | (simp; done) | (simp; omega)))))).rd).mono ?_
  rintro e w13 ⟨rfl, hb13⟩
  have z13 := hb13.size
  (try simp at z13)
  have y13_0 : w.heap.size < w13.heap.size := (by omega)
  have y13_1 : w3.heap.size < w13.heap.size := (by omega)
  have y13_2 : w5.heap.size < w13.heap.size := (by omega)
  have y13_3 : w7.heap.size < w13.heap.size := (by omega)
  have k13_0 := bel_keeps hb13 (b := w.heap.size) (o := 0) (v := .slice ad00 gs.length cap00) (by first | (go_simp; done) | assumption)
  have k13_1 := bel_keeps hb13 (b := w.heap.size) (o := 1) (v := .slice ad01 xs01.length cap01) (by first | (go_simp; done) | assumption)
  have k13_2 := bel_keeps hb13 (b := w3.heap.size) (o := 0) (v := .slice a3 PG.length c3) (by first | (go_simp; done) | assumption)
  have k13_3 := bel_keeps hb13 (b := w3.heap.size) (o := 1) (v := .slice b3 xs01.length d3) (by first | (go_simp; done) | assumption)
  have k13_4 := bel_keeps hb13 (b := w5.heap.size) (o := 0) (v := .slice (some ⟨g15, 0, none⟩) gs.length gs.length) (by first | (go_simp; done) | assumption)
  have k13_5 := bel_keeps hb13 (b := w5.heap.size) (o := 1) (v := .slice (some ⟨g25, 0, none⟩) xs01.length xs01.length) (by first | (go_simp; done) | assumption)
  have k13_6 := bel_keeps hb13 (b := w7.heap.size) (o := 0) (v := .slice a7 PG.length c7) (by first | (go_simp; done) | assumption)
  have k13_7 := bel_keeps hb13 (b := w7.heap.size) (o := 1) (v := .slice b7 xs01.length d7) (by first | (go_simp; done) | assumption)
  clear k12_0 k12_1 k12_2 k12_3 k12_4 k12_5 k12_6 k12_7
  go_wp2_with fail
  refine (eqIntS_same PW _ _ _ _ _ hF1 (v7.keep (fun a ha => (by have hh := ik7 a ha; exact (by (repeat (first | with_reducible exact Kp.refl _ _ | (with_reducible refine Kp.rng ?_ (by assumption) ?_) | (with_reducible refine Kp.below ?_ (by assumption)) | (with_reducible refine Kp.grown ?_ (by assumption) ?_) | (with_reducible refine Kp.alloc ?_ _) | (with_reducible refine Kp.drew ?_) | (with_reducible refine Kp.drewN ?_ _) | (with_reducible refine Kp.setCell ?_ _ ?_))) <;> (first | omega | (simp; done) | (simp; omega)))))).rd (v3.keep (fun a ha => (by have hh := ik3 a ha; exact (by (repeat (first | with_reducible exact Kp.refl _ _ | (with_reducible refine Kp.rng ?_ (by assumption) ?_) | (with_reducible refine Kp.below ?_ (by assumption)) | (with_reducible refine Kp.grown ?_ (by assumption) ?_) | (with_reducible refine Kp.alloc ?_ _) | (with_reducible refine Kp.drew ?_) | (with_reducible refine Kp.drewN ?_ _) | (with_reducible refine Kp.setCell ?_ _ ?_))) <;> (first | omega | (simp; done) | (simp; omega)))))).rd).mono ?_
  rintro e _ ⟨rfl, m14, rfl⟩
  obtain ⟨w14, hw14⟩ : ∃ W, W = w13.drewN m14 := ⟨_, rfl⟩
  rw [← hw14]
  have hb14 : Below w13.heap.size w13 w14 := by rw [hw14]; exact below_drewN (Below.refl _ _) _
  clear hw14
  have z14 := hb14.size
  (try simp at z14)
  have y14_0 : w.heap.size < w14.heap.size := (by omega)
  have y14_1 : w3.heap.size < w14.heap.size := (by omega)
  have y14_2 : w5.heap.size < w14.heap.size := (by omega)
  have y14_3 : w7.heap.size < w14.heap.size := (by omega)
  have k14_0 := bel_keeps hb14 (b := w.heap.size) (o := 0) (v := .slice ad00 gs.length cap00) (by first | (go_simp; done) | assumption)
  have k14_1 := bel_keeps hb14 (b := w.heap.size) (o := 1) (v := .slice ad01 xs01.length cap01) (by first | (go_simp; done) | assumption)
  have k14_2 := bel_keeps hb14 (b := w3.heap.size) (o := 0) (v := .slice a3 PG.length c3) (by first | (go_simp; done) | assumption)
  have k14_3 := bel_keeps hb14 (b := w3.heap.size) (o := 1) (v := .slice b3 xs01.length d3) (by first | (go_simp; done) | assumption)
  have k14_4 := bel_keeps hb14 (b := w5.heap.size) (o := 0) (v := .slice (some ⟨g15, 0, none⟩) gs.length gs.length) (by first | (go_simp; done) | assumption)
  have k14_5 := bel_keeps hb14 (b := w5.heap.size) (o := 1) (v := .slice (some ⟨g25, 0, none⟩) xs01.length xs01.length) (by first | (go_simp; done) | assumption)
  have k14_6 := bel_keeps hb14 (b := w7.heap.size) (o := 0) (v := .slice a7 PG.length c7) (by first | (go_simp; done) | assumption)
  have k14_7 := bel_keeps hb14 (b := w7.heap.size) (o := 1) (v := .slice b7 xs01.length d7) (by first | (go_simp; done) | assumption)
  clear k13_0 k13_1 k13_2 k13_3 k13_4 k13_5 k13_6 k13_7
  go_wp2_with fail
  have hq15 : Own w14 _ _ _ x7 (PW.length) _ _ := (v7.keep (fun a ha => (by have hh := ik7 a ha; exact (by (repeat (first | with_reducible exact Kp.refl _ _ | (with_reducible refine Kp.rng ?_ (by assumption) ?_) | (with_reducible refine Kp.below ?_ (by assumption)) | (with_reducible refine Kp.grown ?_ (by assumption) ?_) | (with_reducible refine Kp.alloc ?_ _) | (with_reducible refine Kp.drew ?_) | (with_reducible refine Kp.drewN ?_ _) | (with_reducible refine Kp.setCell ?_ _ ?_))) <;> (first | omega | (simp; done) | (simp; omega))))))
  refine (markCircuit2_any (PG.length) (xs01.length) _ _ _ _ w6.heap.size w7.heap.size 1 a7 b7 _ _ _ (by omega) (by omega) hF0 hm1 (oc7.keep (fun a ha => (by have hh := ic7 a ha; exact (by (repeat (first | with_reducible exact Kp.refl _ _ | (with_reducible refine Kp.rng ?_ (by assumption) ?_) | (with_reducible refine Kp.below ?_ (by assumption)) | (with_reducible refine Kp.grown ?_ (by assumption) ?_) | (with_reducible refine Kp.alloc ?_ _) | (with_reducible refine Kp.drew ?_) | (with_reducible refine Kp.drewN ?_ _) | (with_reducible refine Kp.setCell ?_ _ ?_))) <;> (first | omega | (simp; done) | (simp; omega)))))) (uc7.keep (fun a ha => (by have hh := jc7 a ha; exact (by (repeat (first | with_reducible exact Kp.refl _ _ | (with_reducible refine Kp.rng ?_ (by assumption) ?_) | (with_reducible refine Kp.below ?_ (by assumption)) | (with_reducible refine Kp.grown ?_ (by assumption) ?_) | (with_reducible refine Kp.alloc ?_ _) | (with_reducible refine Kp.drew ?_) | (with_reducible refine Kp.drewN ?_ _) | (with_reducible refine Kp.setCell ?_ _ ?_))) <;> (first | omega | (simp; done) | (simp; omega)))))) ic7 jc7 ne7 (by omega) (by first | omega | (simp; done) | (simp; omega))).mono ?_
  rintro e w15 ⟨rfl, o115, o215, hb15, hr15, hkq15⟩
  have oq15 := hq15.keep fun a ha => hkq15 _ (fun x hx => na7 x a hx ha) (fun x hx => nb7 x a hx ha)
  clear hq15 hkq15
  have z15 := hb15.size
  (try simp at z15)
  have y15_0 : w.heap.size < w15.heap.size := (by omega)
  have y15_1 : w3.heap.size < w15.heap.size := (by omega)
  have y15_2 : w5.heap.size < w15.heap.size := (by omega)
  have y15_3 : w7.heap.size < w15.heap.size := (by omega)
  have k15_0 : w15.cell? ⟨w.heap.size, 0, none⟩ = some (.slice ad00 gs.length cap00) := hr15.keeps (by omega) (by first | (go_simp; done) | assumption)
  have k15_1 : w15.cell? ⟨w.heap.size, 1, none⟩ = some (.slice ad01 xs01.length cap01) := hr15.keeps (by omega) (by first | (go_simp; done) | assumption)
  have k15_2 : w15.cell? ⟨w3.heap.size, 0, none⟩ = some (.slice a3 PG.length c3) := hr15.keeps (by omega) (by first | (go_simp; done) | assumption)
  have k15_3 : w15.cell? ⟨w3.heap.size, 1, none⟩ = some (.slice b3 xs01.length d3) := hr15.keeps (by omega) (by first | (go_simp; done) | assumption)
  have k15_4 : w15.cell? ⟨w5.heap.size, 0, none⟩ = some (.slice (some ⟨g15, 0, none⟩) gs.length gs.length) := hr15.keeps (by omega) (by first | (go_simp; done) | assumption)
  have k15_5 : w15.cell? ⟨w5.heap.size, 1, none⟩ = some (.slice (some ⟨g25, 0, none⟩) xs01.length xs01.length) := hr15.keeps (by omega) (by first | (go_simp; done) | assumption)
  have k15_6 : w15.cell? ⟨w7.heap.size, 0, none⟩ = some (.slice a7 PG.length c7) := hr15.keeps (by omega) (by first | (go_simp; done) | assumption)
  have k15_7 : w15.cell? ⟨w7.heap.size, 1, none⟩ = some (.slice b7 xs01.length d7) := hr15.keeps (by omega) (by first | (go_simp; done) | assumption)
  clear k14_0 k14_1 k14_2 k14_3 k14_4 k14_5 k14_6 k14_7
  go_wp2_with fail
  have hq16 : Own w15 _ _ _ a7 (PG.length) _ _ := (o115.keep (fun a ha => (by have hh := ic7 a ha; exact (by (repeat (first | with_reducible exact Kp.refl _ _ | (with_reducible refine Kp.rng ?_ (by assumption) ?_) | (with_reducible refine Kp.below ?_ (by assumption)) | (with_reducible refine Kp.grown ?_ (by assumption) ?_) | (with_reducible refine Kp.alloc ?_ _) | (with_reducible refine Kp.drew ?_) | (with_reducible refine Kp.drewN ?_ _) | (with_reducible refine Kp.setCell ?_ _ ?_))) <;> (first | omega | (simp; done) | (simp; omega))))))
  have hp16 : Own w15 _ _ _ b7 (xs01.length) _ _ := (o215.keep (fun a ha => (by have hh := jc7 a ha; exact (by (repeat (first | with_reducible exact Kp.refl _ _ | (with_reducible refine Kp.rng ?_ (by assumption) ?_) | (with_reducible refine Kp.below ?_ (by assumption)) | (with_reducible refine Kp.grown ?_ (by assumption) ?_) | (with_reducible refine Kp.alloc ?_ _) | (with_reducible refine Kp.drew ?_) | (with_reducible refine Kp.drewN ?_ _) | (with_reducible refine Kp.setCell ?_ _ ?_))) <;> (first | omega | (simp; done) | (simp; omega))))))
  have hin16 : Ins x7 w6.heap.size w7.heap.size := ik7
  refine (markIntS_any (PW.length) _ _ (1 + (PG.length * 3 : Nat) + xs01.length) _ _ _ (by omega) (by omega) hF1 (oq15.keep (fun a ha => (by have hh := ik7 a ha; exact (by (repeat (first | with_reducible exact Kp.refl _ _ | (with_reducible refine Kp.rng ?_ (by assumption) ?_) | (with_reducible refine Kp.below ?_ (by assumption)) | (with_reducible refine Kp.grown ?_ (by assumption) ?_) | (with_reducible refine Kp.alloc ?_ _) | (with_reducible refine Kp.drew ?_) | (with_reducible refine Kp.drewN ?_ _) | (with_reducible refine Kp.setCell ?_ _ ?_))) <;> (first | omega | (simp; done) | (simp; omega))))))).mono ?_
  rintro e w16 ⟨rfl, ho16, hg16⟩
  have hb16 := below_of_grown hin16 (by first | omega | (simp; done) | (simp; omega)) hg16
  have hr16 := Rng.of_grown hin16 hg16
  have oq16 := hq16.kpg hg16 (fun a ha => map_ne_of fun y hy e => na7 a y ha hy e.symm)
  have op16 := hp16.kpg hg16 (fun a ha => map_ne_of fun y hy e => nb7 a y ha hy e.symm)
  clear hq16 hp16 hg16 hin16
  have z16 := hb16.size
  (try simp at z16)
  have y16_0 : w.heap.size < w16.heap.size := (by omega)
  have y16_1 : w3.heap.size < w16.heap.size := (by omega)
  have y16_2 : w5.heap.size < w16.heap.size := (by omega)
  have y16_3 : w7.heap.size < w16.heap.size := (by omega)
  have k16_0 : w16.cell? ⟨w.heap.size, 0, none⟩ = some (.slice ad00 gs.length cap00) := hr16.keeps (by omega) (by first | (go_simp; done) | assumption)
  have k16_1 : w16.cell? ⟨w.heap.size, 1, none⟩ = some (.slice ad01 xs01.length cap01) := hr16.keeps (by omega) (by first | (go_simp; done) | assumption)
  have k16_2 : w16.cell? ⟨w3.heap.size, 0, none⟩ = some (.slice a3 PG.length c3) := hr16.keeps (by omega) (by first | (go_simp; done) | assumption)
  have k16_3 : w16.cell? ⟨w3.heap.size, 1, none⟩ = some (.slice b3 xs01.length d3) := hr16.keeps (by omega) (by first | (go_simp; done) | assumption)
  have k16_4 : w16.cell? ⟨w5.heap.size, 0, none⟩ = some (.slice (some ⟨g15, 0, none⟩) gs.length gs.length) := hr16.keeps (by omega) (by first | (go_simp; done) | assumption)
  have k16_5 : w16.cell? ⟨w5.heap.size, 1, none⟩ = some (.slice (some ⟨g25, 0, none⟩) xs01.length xs01.length) := hr16.keeps (by omega) (by first | (go_simp; done) | assumption)
  have k16_6 : w16.cell? ⟨w7.heap.size, 0, none⟩ = some (.slice a7 PG.length c7) := hr16.keeps (by omega) (by first | (go_simp; done) | assumption)
  have k16_7 : w16.cell? ⟨w7.heap.size, 1, none⟩ = some (.slice b7 xs01.length d7) := hr16.keeps (by omega) (by first | (go_simp; done) | assumption)
  clear k15_0 k15_1 k15_2 k15_3 k15_4 k15_5 k15_6 k15_7
  go_wp2_with fail
  refine (heldCircuit_any (PG.length) (xs01.length) 1 _ _ _ _ _ (by omega) (by omega) hF0 hm1 (oq16.keep (fun a ha => (by have hh := ic7 a ha; exact (by (repeat (first | with_reducible exact Kp.refl _ _ | (with_reducible refine Kp.rng ?_ (by assumption) ?_) | (with_reducible refine Kp.below ?_ (by assumption)) | (with_reducible refine Kp.grown ?_ (by assumption) ?_) | (with_reducible refine Kp.alloc ?_ _) | (with_reducible refine Kp.drew ?_) | (with_reducible refine Kp.drewN ?_ _) | (with_reducible refine Kp.setCell ?_ _ ?_))) <;> (first | omega | (simp; done) | (simp; omega)))))).rd (op16.keep (fun a ha => (by have hh := jc7 a ha; exact (by (repeat (first | with_reducible exact Kp.refl _ _ | (with_reducible refine Kp.rng ?_ (by assumption) ?_) | (with_reducible refine Kp.below ?_ (by assumption)) | (with_reducible refine Kp.grown ?_ (by assumption) ?_) | (with_reducible refine Kp.alloc ?_ _) | (with_reducible refine Kp.drew ?_) | (with_reducible refine Kp.drewN ?_ _) | (with_reducible refine Kp.setCell ?_ _ ?_))) <;> (first | omega | (simp; done) | (simp; omega)))))).rd).mono ?_
  rintro e w17 ⟨rfl, hb17⟩
  have z17 := hb17.size
  (try simp at z17)
  have y17_0 : w.heap.size < w17.heap.size := (by omega)
  have y17_1 : w3.heap.size < w17.heap.size := (by omega)
  have y17_2 : w5.heap.size < w17.heap.size := (by omega)
  have y17_3 : w7.heap.size < w17.heap.size := (by omega)
  have k17_0 := bel_keeps hb17 (b := w.heap.size) (o := 0) (v := .slice ad00 gs.length cap00) (by first | (go_simp; done) | assumption)
  have k17_1 := bel_keeps hb17 (b := w.heap.size) (o := 1) (v := .slice ad01 xs01.length cap01) (by first | (go_simp; done) | assumption)
  have k17_2 := bel_keeps hb17 (b := w3.heap.size) (o := 0) (v := .slice a3 PG.length c3) (by first | (go_simp; done) | assumption)
  have k17_3 := bel_keeps hb17 (b := w3.heap.size) (o := 1) (v := .slice b3 xs01.length d3) (by first | (go_simp; done) | assumption)
  have k17_4 := bel_keeps hb17 (b := w5.heap.size) (o := 0) (v := .slice (some ⟨g15, 0, none⟩) gs.length gs.length) (by first | (go_simp; done) | assumption)
  have k17_5 := bel_keeps hb17 (b := w5.heap.size) (o := 1) (v := .slice (some ⟨g25, 0, none⟩) xs01.length xs01.length) (by first | (go_simp; done) | assumption)
  have k17_6 := bel_keeps hb17 (b := w7.heap.size) (o := 0) (v := .slice a7 PG.length c7) (by first | (go_simp; done) | assumption)
  have k17_7 := bel_keeps hb17 (b := w7.heap.size) (o := 1) (v := .slice b7 xs01.length d7) (by first | (go_simp; done) | assumption)
  clear k16_0 k16_1 k16_2 k16_3 k16_4 k16_5 k16_6 k16_7
  go_wp2_with fail
  refine (heldIntS_any PW.length (1 + (PG.length * 3 : Nat) + xs01.length) _ _ _ (by omega) (by omega) hF1 (ho16.keep (fun a ha => (by have hh := ik7 a ha; exact (by (repeat (first | with_reducible exact Kp.refl _ _ | (with_reducible refine Kp.rng ?_ (by assumption) ?_) | (with_reducible refine Kp.below ?_ (by assumption)) | (with_reducible refine Kp.grown ?_ (by assumption) ?_) | (with_reducible refine Kp.alloc ?_ _) | (with_reducible refine Kp.drew ?_) | (with_reducible refine Kp.drewN ?_ _) | (with_reducible refine Kp.setCell ?_ _ ?_))) <;> (first | omega | (simp; done) | (simp; omega)))))).rd).mono ?_
  rintro e _ ⟨rfl, rfl⟩
  go_wp2_with fail
  refine (toCircuit_any gs xs01 _ _ _ _ _ hm0 hm1 (HR0.out.below (by (repeat (first | with_reducible exact Below.refl _ _ | (with_reducible refine bel_next ?_ ?_ (by assumption)) | (with_reducible refine Below.alloc ?_ ?_ _) | (with_reducible refine Below.drew ?_) | (with_reducible refine below_drewN ?_ _) | (with_reducible refine Below.setCell ?_ ?_ _))) <;> (first | omega | (simp; done) | (simp; omega)))) (HR1.out.below (by (repeat (first | with_reducible exact Below.refl _ _ | (with_reducible refine bel_next ?_ ?_ (by assumption)) | (with_reducible refine Below.alloc ?_ ?_ _) | (with_reducible refine Below.drew ?_) | (with_reducible refine below_drewN ?_ _) | (with_reducible refine Below.setCell ?_ ?_ _))) <;> (first | omega | (simp; done) | (simp; omega))))).mono ?_
  rintro e w18 ⟨g118, g218, rfl, o118, o218, lt18, hb18⟩
  have z18 := hb18.size
  (try simp at z18)
  have y18_0 : w.heap.size < w18.heap.size := (by omega)
  have y18_1 : w3.heap.size < w18.heap.size := (by omega)
  have y18_2 : w5.heap.size < w18.heap.size := (by omega)
  have y18_3 : w7.heap.size < w18.heap.size := (by omega)
  have k18_0 := bel_keeps hb18 (b := w.heap.size) (o := 0) (v := .slice ad00 gs.length cap00) (by first | (go_simp; done) | assumption)
  have k18_1 := bel_keeps hb18 (b := w.heap.size) (o := 1) (v := .slice ad01 xs01.length cap01) (by first | (go_simp; done) | assumption)
  have k18_2 := bel_keeps hb18 (b := w3.heap.size) (o := 0) (v := .slice a3 PG.length c3) (by first | (go_simp; done) | assumption)
  have k18_3 := bel_keeps hb18 (b := w3.heap.size) (o := 1) (v := .slice b3 xs01.length d3) (by first | (go_simp; done) | assumption)
  have k18_4 := bel_keeps hb18 (b := w5.heap.size) (o := 0) (v := .slice (some ⟨g15, 0, none⟩) gs.length gs.length) (by first | (go_simp; done) | assumption)
  have k18_5 := bel_keeps hb18 (b := w5.heap.size) (o := 1) (v := .slice (some ⟨g25, 0, none⟩) xs01.length xs01.length) (by first | (go_simp; done) | assumption)
  have k18_6 := bel_keeps hb18 (b := w7.heap.size) (o := 0) (v := .slice a7 PG.length c7) (by first | (go_simp; done) | assumption)
  have k18_7 := bel_keeps hb18 (b := w7.heap.size) (o := 1) (v := .slice b7 xs01.length d7) (by first | (go_simp; done) | assumption)
  clear k17_0 k17_1 k17_2 k17_3 k17_4 k17_5 k17_6 k17_7
  have i118 := o118.ins
  have i218 := o218.ins
  have ne18 : ∀ x y, (some ⟨g118, 0, none⟩ : Option Addr) = some x → (some ⟨g218, 0, none⟩ : Option Addr) = some y → x.block ≠ y.block := by (intro x y hx hy; obtain rfl := Option.some.inj hx; obtain rfl := Option.some.inj hy; simp; omega)
  go_wp2_with fail
  have hcc := iWordConst_any gs xs01 (some ⟨g118, 0, none⟩) (some ⟨g218, 0, none⟩) gs.length xs01.length w18 hm0 hm1 (o118.keep (fun a ha => (by have hh := i118 a ha; exact (by (repeat (first | with_reducible exact Kp.refl _ _ | (with_reducible refine Kp.rng ?_ (by assumption) ?_) | (with_reducible refine Kp.below ?_ (by assumption)) | (with_reducible refine Kp.grown ?_ (by assumption) ?_) | (with_reducible refine Kp.alloc ?_ _) | (with_reducible refine Kp.drew ?_) | (with_reducible refine Kp.drewN ?_ _) | (with_reducible refine Kp.setCell ?_ _ ?_))) <;> (first | omega | (simp; done) | (simp; omega)))))).rd (o218.keep (fun a ha => (by have hh := i218 a ha; exact (by (repeat (first | with_reducible exact Kp.refl _ _ | (with_reducible refine Kp.rng ?_ (by assumption) ?_) | (with_reducible refine Kp.below ?_ (by assumption)) | (with_reducible refine Kp.grown ?_ (by assumption) ?_) | (with_reducible refine Kp.alloc ?_ _) | (with_reducible refine Kp.drew ?_) | (with_reducible refine Kp.drewN ?_ _) | (with_reducible refine Kp.setCell ?_ _ ?_))) <;> (first | omega | (simp; done) | (simp; omega)))))).rd a1
  rw [← HPG.out, ← HPW.out] at hcc
  refine hcc.mono ?_
  clear hcc
  rintro e w19 ⟨a19, c19, b19, d19, x19, y19, rfl, oc19, uc19, ne19, v19, na19, nb19, hb19⟩
  have z19 := hb19.size
  (try simp at z19)
  have y19_0 : w.heap.size < w19.heap.size := (by omega)
  have y19_1 : w3.heap.size < w19.heap.size := (by omega)
  have y19_2 : w5.heap.size < w19.heap.size := (by omega)
  have y19_3 : w7.heap.size < w19.heap.size := (by omega)
  have k19_0 := bel_keeps hb19 (b := w.heap.size) (o := 0) (v := .slice ad00 gs.length cap00) (by first | (go_simp; done) | assumption)
  have k19_1 := bel_keeps hb19 (b := w.heap.size) (o := 1) (v := .slice ad01 xs01.length cap01) (by first | (go_simp; done) | assumption)
  have k19_2 := bel_keeps hb19 (b := w3.heap.size) (o := 0) (v := .slice a3 PG.length c3) (by first | (go_simp; done) | assumption)
  have k19_3 := bel_keeps hb19 (b := w3.heap.size) (o := 1) (v := .slice b3 xs01.length d3) (by first | (go_simp; done) | assumption)
  have k19_4 := bel_keeps hb19 (b := w5.heap.size) (o := 0) (v := .slice (some ⟨g15, 0, none⟩) gs.length gs.length) (by first | (go_simp; done) | assumption)
  have k19_5 := bel_keeps hb19 (b := w5.heap.size) (o := 1) (v := .slice (some ⟨g25, 0, none⟩) xs01.length xs01.length) (by first | (go_simp; done) | assumption)
  have k19_6 := bel_keeps hb19 (b := w7.heap.size) (o := 0) (v := .slice a7 PG.length c7) (by first | (go_simp; done) | assumption)
  have k19_7 := bel_keeps hb19 (b := w7.heap.size) (o := 1) (v := .slice b7 xs01.length d7) (by first | (go_simp; done) | assumption)
  clear k18_0 k18_1 k18_2 k18_3 k18_4 k18_5 k18_6 k18_7
  have ic19 := oc19.ins
  have jc19 := uc19.ins
  have ik19 := v19.ins
  go_wp2_with fail
  obtain ⟨w20, hw20⟩ : ∃ W, W = w19.alloc (.cells #[.slice a19 PG.length c19, .slice b19 xs01.length d19] 29) := ⟨_, rfl⟩
  rw [← hw20]
  have hb20 : Below w19.heap.size w19 w20 := by rw [hw20]; exact (Below.refl _ _).alloc (Nat.le_refl _) _
  have x20 : w19.heap.size < w20.heap.size := by rw [hw20]; simp
  have z20 := hb20.size
  (try simp at z20)
  have y20_0 : w.heap.size < w20.heap.size := (by omega)
  have y20_1 : w3.heap.size < w20.heap.size := (by omega)
  have y20_2 : w5.heap.size < w20.heap.size := (by omega)
  have y20_3 : w7.heap.size < w20.heap.size := (by omega)
  have k20_0 := bel_keeps hb20 (b := w.heap.size) (o := 0) (v := .slice ad00 gs.length cap00) (by first | (go_simp; done) | assumption)
  have k20_1 := bel_keeps hb20 (b := w.heap.size) (o := 1) (v := .slice ad01 xs01.length cap01) (by first | (go_simp; done) | assumption)
  have k20_2 := bel_keeps hb20 (b := w3.heap.size) (o := 0) (v := .slice a3 PG.length c3) (by first | (go_simp; done) | assumption)
  have k20_3 := bel_keeps hb20 (b := w3.heap.size) (o := 1) (v := .slice b3 xs01.length d3) (by first | (go_simp; done) | assumption)
  have k20_4 := bel_keeps hb20 (b := w5.heap.size) (o := 0) (v := .slice (some ⟨g15, 0, none⟩) gs.length gs.length) (by first | (go_simp; done) | assumption)
  have k20_5 := bel_keeps hb20 (b := w5.heap.size) (o := 1) (v := .slice (some ⟨g25, 0, none⟩) xs01.length xs01.length) (by first | (go_simp; done) | assumption)
  have k20_6 := bel_keeps hb20 (b := w7.heap.size) (o := 0) (v := .slice a7 PG.length c7) (by first | (go_simp; done) | assumption)
  have k20_7 := bel_keeps hb20 (b := w7.heap.size) (o := 1) (v := .slice b7 xs01.length d7) (by first | (go_simp; done) | assumption)
  clear k19_0 k19_1 k19_2 k19_3 k19_4 k19_5 k19_6 k19_7
  have kb20_0 : w20.cell? ⟨w19.heap.size, 0, none⟩ = some (.slice a19 PG.length c19) := by rw [hw20]; go_simp
  have kb20_1 : w20.cell? ⟨w19.heap.size, 1, none⟩ = some (.slice b19 xs01.length d19) := by rw [hw20]; go_simp
  clear hw20
  go_wp2_with fail
  refine (eqCircuit_same PG xs01 _ _ _ _ _ _ _ _ _ hF0 hm1 (oc19.keep (fun a ha => (by have hh := ic19 a ha; exact (by (repeat (first | with_reducible exact Kp.refl _ _ | (with_reducible refine Kp.rng ?_ (by assumption) ?_) | (with_reducible refine Kp.below ?_ (by assumption)) | (with_reducible refine Kp.grown ?_ (by assumption) ?_) | (with_reducible refine Kp.alloc ?_ _) | (with_reducible refine Kp.drew ?_) | (with_reducible refine Kp.drewN ?_ _) | (with_reducible refine Kp.setCell ?_ _ ?_))) <;> (first | omega | (simp; done) | (simp; omega)))))).rd (uc19.keep (fun a ha => (by have hh := jc19 a ha; exact (by (repeat (first | with_reducible exact Kp.refl _ _ | (with_reducible refine Kp.rng ?_ (by assumption) ?_) | (with_reducible refine Kp.below ?_ (by assumption)) | (with_reducible refine Kp.grown ?_ (by assumption) ?_) | (with_reducible refine Kp.alloc ?_ _) | (with_reducible refine Kp.drew ?_) | (with_reducible refine Kp.drewN ?_ _) | (with_reducible refine Kp.setCell ?_ _ ?_))) <;> (first | omega | (simp; done) | (simp; omega)))))).rd (oc3.keep (fun a ha => (by have hh := ic3 a ha; exact (by (repeat (first | with_reducible exact Kp.refl _ _ | (with_reducible refine Kp.rng ?_ (by assumption) ?_) | (with_reducible refine Kp.below ?_ (by assumption)) | (with_reducible refine Kp.grown ?_ (by assumption) ?_) | (with_reducible refine Kp.alloc ?_ _) | (with_reducible refine Kp.drew ?_) | (with_reducible refine Kp.drewN ?_ _) | (with_reducible refine Kp.setCell ?_ _ ?_))) <;> (first | omega | (simp; done) | (simp; omega)))))).rd (uc3.keep (fun a ha => (by have hh := jc3 a ha; exact (by (repeat (first | with_reducible exact Kp.refl _ _ | (with_reducible refine Kp.rng ?_ (by assumption) ?_) | (with_reducible refine Kp.below ?_ (by assumption)) | (with_reducible refine Kp.grown ?_ (by assumption) ?_) | (with_reducible refine Kp.alloc ?_ _) | (with_reducible refine Kp.drew ?_) | (with_reducible refine Kp.drewN ?_ _) | (with_reducible refine Kp.setCell ?_ _ ?_))) <;> (first | omega | (simp; done) | (simp; omega)))))).rd).mono ?_
  rintro e w21 ⟨rfl, hb21⟩
  have z21 := hb21.size
  (try simp at z21)
  have y21_0 : w.heap.size < w21.heap.size := (by omega)
  have y21_1 : w3.heap.size < w21.heap.size := (by omega)
  have y21_2 : w5.heap.size < w21.heap.size := (by omega)
  have y21_3 : w7.heap.size < w21.heap.size := (by omega)
  have y21_4 : w19.heap.size < w21.heap.size := (by omega)
  have k21_0 := bel_keeps hb21 (b := w.heap.size) (o := 0) (v := .slice ad00 gs.length cap00) (by first | (go_simp; done) | assumption)
  have k21_1 := bel_keeps hb21 (b := w.heap.size) (o := 1) (v := .slice ad01 xs01.length cap01) (by first | (go_simp; done) | assumption)
  have k21_2 := bel_keeps hb21 (b := w3.heap.size) (o := 0) (v := .slice a3 PG.length c3) (by first | (go_simp; done) | assumption)
  have k21_3 := bel_keeps hb21 (b := w3.heap.size) (o := 1) (v := .slice b3 xs01.length d3) (by first | (go_simp; done) | assumption)
  have k21_4 := bel_keeps hb21 (b := w5.heap.size) (o := 0) (v := .slice (some ⟨g15, 0, none⟩) gs.length gs.length) (by first | (go_simp; done) | assumption)
  have k21_5 := bel_keeps hb21 (b := w5.heap.size) (o := 1) (v := .slice (some ⟨g25, 0, none⟩) xs01.length xs01.length) (by first | (go_simp; done) | assumption)
  have k21_6 := bel_keeps hb21 (b := w7.heap.size) (o := 0) (v := .slice a7 PG.length c7) (by first | (go_simp; done) | assumption)
  have k21_7 := bel_keeps hb21 (b := w7.heap.size) (o := 1) (v := .slice b7 xs01.length d7) (by first | (go_simp; done) | assumption)
  have k21_8 := bel_keeps hb21 (b := w19.heap.size) (o := 0) (v := .slice a19 PG.length c19) (by first | (go_simp; done) | assumption)
  have k21_9 := bel_keeps hb21 (b := w19.heap.size) (o := 1) (v := .slice b19 xs01.length d19) (by first | (go_simp; done) | assumption)
  clear k20_0 k20_1 k20_2 k20_3 k20_4 k20_5 k20_6 k20_7 kb20_0 kb20_1
  go_wp2_with fail
  refine (eqIntS_same PW _ _ _ _ _ hF1 (v19.keep (fun a ha => (by have hh := ik19 a ha; exact (by (repeat (first | with_reducible exact Kp.refl _ _ | (with_reducible refine Kp.rng ?_ (by assumption) ?_) | (with_reducible refine Kp.below ?_ (by assumption)) | (with_reducible refine Kp.grown ?_ (by assumption) ?_) | (with_reducible refine Kp.alloc ?_ _) | (with_reducible refine Kp.drew ?_) | (with_reducible refine Kp.drewN ?_ _) | (with_reducible refine Kp.setCell ?_ _ ?_))) <;> (first | omega | (simp; done) | (simp; omega)))))).rd (v3.keep (fun a ha => (by have hh := ik3 a ha; exact (by (repeat (first | with_reducible exact Kp.refl _ _ | (with_reducible refine Kp.rng ?_ (by assumption) ?_) | (with_reducible refine Kp.below ?_ (by assumption)) | (with_reducible refine Kp.grown ?_ (by assumption) ?_) | (with_reducible refine Kp.alloc ?_ _) | (with_reducible refine Kp.drew ?_) | (with_reducible refine Kp.drewN ?_ _) | (with_reducible refine Kp.setCell ?_ _ ?_))) <;> (first | omega | (simp; done) | (simp; omega)))))).rd).mono ?_
  rintro e _ ⟨rfl, m22, rfl⟩
  obtain ⟨w22, hw22⟩ : ∃ W, W = w21.drewN m22 := ⟨_, rfl⟩
  rw [← hw22]
  have hb22 : Below w21.heap.size w21 w22 := by rw [hw22]; exact below_drewN (Below.refl _ _) _
  clear hw22
  have z22 := hb22.size
  (try simp at z22)
  have y22_0 : w.heap.size < w22.heap.size := (by omega)
  have y22_1 : w3.heap.size < w22.heap.size := (by omega)
  have y22_2 : w5.heap.size < w22.heap.size := (by omega)
  have y22_3 : w7.heap.size < w22.heap.size := (by omega)
  have y22_4 : w19.heap.size < w22.heap.size := (by omega)
  have k22_0 := bel_keeps hb22 (b := w.heap.size) (o := 0) (v := .slice ad00 gs.length cap00) (by first | (go_simp; done) | assumption)
  have k22_1 := bel_keeps hb22 (b := w.heap.size) (o := 1) (v := .slice ad01 xs01.length cap01) (by first | (go_simp; done) | assumption)
  have k22_2 := bel_keeps hb22 (b := w3.heap.size) (o := 0) (v := .slice a3 PG.length c3) (by first | (go_simp; done) | assumption)
  have k22_3 := bel_keeps hb22 (b := w3.heap.size) (o := 1) (v := .slice b3 xs01.length d3) (by first | (go_simp; done) | assumption)
  have k22_4 := bel_keeps hb22 (b := w5.heap.size) (o := 0) (v := .slice (some ⟨g15, 0, none⟩) gs.length gs.length) (by first | (go_simp; done) | assumption)
  have k22_5 := bel_keeps hb22 (b := w5.heap.size) (o := 1) (v := .slice (some ⟨g25, 0, none⟩) xs01.length xs01.length) (by first | (go_simp; done) | assumption)
  have k22_6 := bel_keeps hb22 (b := w7.heap.size) (o := 0) (v := .slice a7 PG.length c7) (by first | (go_simp; done) | assumption)
  have k22_7 := bel_keeps hb22 (b := w7.heap.size) (o := 1) (v := .slice b7 xs01.length d7) (by first | (go_simp; done) | assumption)
  have k22_8 := bel_keeps hb22 (b := w19.heap.size) (o := 0) (v := .slice a19 PG.length c19) (by first | (go_simp; done) | assumption)
  have k22_9 := bel_keeps hb22 (b := w19.heap.size) (o := 1) (v := .slice b19 xs01.length d19) (by first | (go_simp; done) | assumption)
  clear k21_0 k21_1 k21_2 k21_3 k21_4 k21_5 k21_6 k21_7 k21_8 k21_9
  go_wp2_with fail
  refine (heldCircuit_any (PG.length) (xs01.length) 1 _ _ _ _ _ (by omega) (by omega) hF0 hm1 (oq16.keep (fun a ha => (by have hh := ic7 a ha; exact (by (repeat (first | with_reducible exact Kp.refl _ _ | (with_reducible refine Kp.rng ?_ (by assumption) ?_) | (with_reducible refine Kp.below ?_ (by assumption)) | (with_reducible refine Kp.grown ?_ (by assumption) ?_) | (with_reducible refine Kp.alloc ?_ _) | (with_reducible refine Kp.drew ?_) | (with_reducible refine Kp.drewN ?_ _) | (with_reducible refine Kp.setCell ?_ _ ?_))) <;> (first | omega | (simp; done) | (simp; omega)))))).rd (op16.keep (fun a ha => (by have hh := jc7 a ha; exact (by (repeat (first | with_reducible exact Kp.refl _ _ | (with_reducible refine Kp.rng ?_ (by assumption) ?_) | (with_reducible refine Kp.below ?_ (by assumption)) | (with_reducible refine Kp.grown ?_ (by assumption) ?_) | (with_reducible refine Kp.alloc ?_ _) | (with_reducible refine Kp.drew ?_) | (with_reducible refine Kp.drewN ?_ _) | (with_reducible refine Kp.setCell ?_ _ ?_))) <;> (first | omega | (simp; done) | (simp; omega)))))).rd).mono ?_
  rintro e w23 ⟨rfl, hb23⟩
  have z23 := hb23.size
  (try simp at z23)
  have y23_0 : w.heap.size < w23.heap.size := (by omega)
  have y23_1 : w3.heap.size < w23.heap.size := (by omega)
  have y23_2 : w5.heap.size < w23.heap.size := (by omega)
  have y23_3 : w7.heap.size < w23.heap.size := (by omega)
  have y23_4 : w19.heap.size < w23.heap.size := (by omega)
  have k23_0 := bel_keeps hb23 (b := w.heap.size) (o := 0) (v := .slice ad00 gs.length cap00) (by first | (go_simp; done) | assumption)
  have k23_1 := bel_keeps hb23 (b := w.heap.size) (o := 1) (v := .slice ad01 xs01.length cap01) (by first | (go_simp; done) | assumption)
  have k23_2 := bel_keeps hb23 (b := w3.heap.size) (o := 0) (v := .slice a3 PG.length c3) (by first | (go_simp; done) | assumption)
  have k23_3 := bel_keeps hb23 (b := w3.heap.size) (o := 1) (v := .slice b3 xs01.length d3) (by first | (go_simp; done) | assumption)
  have k23_4 := bel_keeps hb23 (b := w5.heap.size) (o := 0) (v := .slice (some ⟨g15, 0, none⟩) gs.length gs.length) (by first | (go_simp; done) | assumption)
  have k23_5 := bel_keeps hb23 (b := w5.heap.size) (o := 1) (v := .slice (some ⟨g25, 0, none⟩) xs01.length xs01.length) (by first | (go_simp; done) | assumption)
  have k23_6 := bel_keeps hb23 (b := w7.heap.size) (o := 0) (v := .slice a7 PG.length c7) (by first | (go_simp; done) | assumption)
  have k23_7 := bel_keeps hb23 (b := w7.heap.size) (o := 1) (v := .slice b7 xs01.length d7) (by first | (go_simp; done) | assumption)
  have k23_8 := bel_keeps hb23 (b := w19.heap.size) (o := 0) (v := .slice a19 PG.length c19) (by first | (go_simp; done) | assumption)
  have k23_9 := bel_keeps hb23 (b := w19.heap.size) (o := 1) (v := .slice b19 xs01.length d19) (by first | (go_simp; done) | assumption)
  clear k22_0 k22_1 k22_2 k22_3 k22_4 k22_5 k22_6 k22_7 k22_8 k22_9
  go_wp2_with fail
  refine (heldIntS_any PW.length (1 + (PG.length * 3 : Nat) + xs01.length) _ _ _ (by omega) (by omega) hF1 (ho16.keep (fun a ha => (by have hh := ik7 a ha; exact (by (repeat (first | with_reducible exact Kp.refl _ _ | (with_reducible refine Kp.rng ?_ (by assumption) ?_) | (with_reducible refine Kp.below ?_ (by assumption)) | (with_reducible refine Kp.grown ?_ (by assumption) ?_) | (with_reducible refine Kp.alloc ?_ _) | (with_reducible refine Kp.drew ?_) | (with_reducible refine Kp.drewN ?_ _) | (with_reducible refine Kp.setCell ?_ _ ?_))) <;> (first | omega | (simp; done) | (simp; omega)))))).rd).mono ?_
  rintro e _ ⟨rfl, rfl⟩
  go_wp2_with fail
  go_ret
  exact ⟨rfl, (by (repeat (first | with_reducible exact Below.refl _ _ | (with_reducible refine bel_next ?_ ?_ (by assumption)) | (with_reducible refine Below.alloc ?_ ?_ _) | (with_reducible refine Below.drew ?_) | (with_reducible refine below_drewN ?_ _) | (with_reducible refine Below.setCell ?_ ?_ _))) <;> (first | omega | (simp; done) | (simp; omega)))⟩
end Go.Proofs.Ytfcijloiebnloaa

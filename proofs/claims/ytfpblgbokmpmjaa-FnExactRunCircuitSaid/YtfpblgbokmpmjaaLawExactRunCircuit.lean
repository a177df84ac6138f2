/- The walk of the law FnExactRunCircuit. -/
import Derived.Test.YtfpblgbokmpmjaaCircM
import Derived.Test.YtfpblgbokmpmjaaRunC
import Derived.Test.YtfpblgbokmpmjaaGridK
import Derived.Test.YtfpblgbokmpmjaaShare
import Derived.Deep.RegionHeld3
namespace Go.Proofs.Ytfpblgbokmpmjaa
open Go.RowKit
set_option linter.unusedVariables false
set_option linter.unusedSimpArgs false

set_option maxRecDepth 20000 in
set_option maxHeartbeats 16000000 in
theorem walk_FnExactRunCircuit (w : World) (ns00 : List Int) (len00 : Nat) (ad00 : Option Addr) (cap00 : Nat) (e00 : ns00.length = len00 * 3) (hm00 : len00 ≤ maxLen) (hr00 : RdC w ad00 (I64 ns00)) (xs01 : List Int) (ad01 : Option Addr) (cap01 : Nat) (hm01 : xs01.length ≤ maxLen) (hr01 : RdC w ad01 (I64 xs01)) (rs1 : List Rw) (ad1 : Option Addr) (cap1 : Nat) (hm1 : rs1.length ≤ maxLen) (hr1 : RdC w ad1 (rs1.map Rw.val)) (hrr1 : ∀ r ∈ rs1, RdC w r.ad (I64 r.xs) ∧ r.xs.length ≤ maxLen) :
    Calls Try.prog 16 #[.agg #[.slice ad00 len00 cap00, .slice ad01 xs01.length cap01], .slice ad1 rs1.length cap1] w fun e w' => e = .returned (.bool true) ∧ Below w.heap.size w w' := by
  obtain ⟨gs, hl0, hx0⟩ := gt_of_ints len00 ns00 e00
  rw [← hx0] at hr00
  subst hl0
  clear e00 hx0 ns00
  have HR0 := Lib.hid hr00
  have HR1 := Lib.hid hr01
  clear hr00 hr01
  have hmr1 : rs1.length ≤ maxLen := hm1
  have hri1 : RdR w ad1 rs1 := ⟨hr1, fun r hr => (hrr1 r hr).1⟩
  have hml1 : rowsLe rs1 := fun r hr => (hrr1 r hr).2
  have HRI1 := Lib.hid hri1
  clear hr1 hrr1 hri1
  by_cases hsz : (gs.length : Int) + xs01.length ≤ 1048576
  case neg =>
    have e1 : (if (gs.length : Int) + xs01.length ≤ 1048576 then 1048576 - (gs.length : Int) - xs01.length else -1) = -1 := if_neg hsz
    have E1 := Lib.hid e1
    clear e1
    go_enter Try.func16, Try.ntmps16
    go_wp2_with fail
    refine (szCircuit_any gs.length xs01.length _ _ _ _ _ hm00 hm01 1048576 (by omega) (by omega)).mono ?_
    rintro e w1 ⟨rfl, hb1⟩
    rw [E1.out]
    go_wp2_with fail
    go_ret
    exact ⟨rfl, (by (repeat (first | with_reducible exact Below.refl _ _ | (with_reducible refine bel_next ?_ ?_ (by assumption)) | (with_reducible refine Below.alloc ?_ ?_ _) | (with_reducible refine Below.drew ?_) | (with_reducible refine below_drewN ?_ _) | (with_reducible refine Below.setCell ?_ ?_ _))) <;> (first | omega | (simp; done) | (simp; omega)))⟩
  have e1 : (if (gs.length : Int) + xs01.length ≤ 1048576 then 1048576 - (gs.length : Int) - xs01.length else -1) = 1048576 - gs.length - xs01.length := if_pos hsz
  obtain ⟨ll, hll⟩ : ∃ l : Int, l = 1048576 - (gs.length : Int) - xs01.length := ⟨_, rfl⟩
  have E1 := Lib.hid (e1.trans hll.symm)
  have hl0 : 0 ≤ ll := by omega
  have hl1 : ll ≤ 1048576 := by omega
  clear e1 hll
  have hm0 : gs.length ≤ 1048576 := by omega
  have hm1 : xs01.length ≤ 1048576 := by omega
  have hneg : decide (ll < 0) = false := decide_eq_false (by omega)
  go_enter Try.func16, Try.ntmps16
  go_wp2_with fail
  refine (szCircuit_any gs.length xs01.length _ _ _ _ _ hm00 hm01 1048576 (by omega) (by omega)).mono ?_
  rintro e w1 ⟨rfl, hb1⟩
  rw [E1.out]
  have z1 := hb1.size
  (try simp at z1)
  have y1_0 : w.heap.size < w1.heap.size := (by omega)
  have k1_0 := bel_keeps hb1 (b := w.heap.size) (o := 0) (v := .slice ad00 gs.length cap00) (by first | (go_simp; done) | assumption)
  have k1_1 := bel_keeps hb1 (b := w.heap.size) (o := 1) (v := .slice ad01 xs01.length cap01) (by first | (go_simp; done) | assumption)
  go_wp2_with fail
  refine (szIntSS_k ll hl0 hl1 rs1 _ _ _ hmr1 hml1 (HRI1.out.below (by (repeat (first | with_reducible exact Below.refl _ _ | (with_reducible refine bel_next ?_ ?_ (by assumption)) | (with_reducible refine Below.alloc ?_ ?_ _) | (with_reducible refine Below.drew ?_) | (with_reducible refine below_drewN ?_ _) | (with_reducible refine Below.setCell ?_ ?_ _))) <;> (first | omega | (simp; done) | (simp; omega))))).mono ?_
  rintro e _ ⟨v, rfl, v1, v2, hs2, rfl⟩
  rcases hs2 with hneg2 | hs2
  · go_wp2_with fail
    go_ret
    exact ⟨rfl, (by (repeat (first | with_reducible exact Below.refl _ _ | (with_reducible refine bel_next ?_ ?_ (by assumption)) | (with_reducible refine Below.alloc ?_ ?_ _) | (with_reducible refine Below.drew ?_) | (with_reducible refine below_drewN ?_ _) | (with_reducible refine Below.setCell ?_ ?_ _))) <;> (first | omega | (simp; done) | (simp; omega)))⟩
  by_cases hneg2 : v < 0
  · go_wp2_with fail
    go_ret
    exact ⟨rfl, (by (repeat (first | with_reducible exact Below.refl _ _ | (with_reducible refine bel_next ?_ ?_ (by assumption)) | (with_reducible refine Below.alloc ?_ ?_ _) | (with_reducible refine Below.drew ?_) | (with_reducible refine below_drewN ?_ _) | (with_reducible refine Below.setCell ?_ ?_ _))) <;> (first | omega | (simp; done) | (simp; omega)))⟩
  have hn1 : rs1.length ≤ 1048576 := by omega
  have hnl1 : ∀ r ∈ rs1, r.xs.length ≤ 1048576 := fun r hr => by have := tot_mem hr; omega
  have htot : tot rs1 ≤ 1048576 := by omega
  clear hs2 hml1
  obtain ⟨D, hD⟩ : ∃ D, D = rcOuts gs xs01 (rs1.map Rw.xs) := ⟨_, rfl⟩
  obtain ⟨okb, hokb⟩ : ∃ b, b = rcB gs xs01 (rs1.map Rw.xs) := ⟨_, rfl⟩
  have hF : D.length ≤ 1048576 := by have := rcOuts_le gs xs01 (rs1.map Rw.xs); rw [hD]; omega
  have HD := Lib.hid hD
  have HO := Lib.hid hokb
  clear hD hokb
  cases okb
  all_goals
    go_wp2_with fail
    refine (toCircuit_any gs xs01 _ _ _ _ _ hm0 hm1 (HR0.out.below (by (repeat (first | with_reducible exact Below.refl _ _ | (with_reducible refine bel_next ?_ ?_ (by assumption)) | (with_reducible refine Below.alloc ?_ ?_ _) | (with_reducible refine Below.drew ?_) | (with_reducible refine below_drewN ?_ _) | (with_reducible refine Below.setCell ?_ ?_ _))) <;> (first | omega | (simp; done) | (simp; omega)))) (HR1.out.below (by (repeat (first | with_reducible exact Below.refl _ _ | (with_reducible refine bel_next ?_ ?_ (by assumption)) | (with_reducible refine Below.alloc ?_ ?_ _) | (with_reducible refine Below.drew ?_) | (with_reducible refine below_drewN ?_ _) | (with_reducible refine Below.setCell ?_ ?_ _))) <;> (first | omega | (simp; done) | (simp; omega))))).mono ?_
    rintro e w2 ⟨g12, g22, rfl, o12, o22, lt2, hb2⟩
    have z2 := hb2.size
    (try simp at z2)
    have y2_0 : w.heap.size < w2.heap.size := (by omega)
    have k2_0 := bel_keeps hb2 (b := w.heap.size) (o := 0) (v := .slice ad00 gs.length cap00) (by first | (go_simp; done) | assumption)
    have k2_1 := bel_keeps hb2 (b := w.heap.size) (o := 1) (v := .slice ad01 xs01.length cap01) (by first | (go_simp; done) | assumption)
    clear k1_0 k1_1
    have i12 := o12.ins
    have i22 := o22.ins
    have ne2 : ∀ x y, (some ⟨g12, 0, none⟩ : Option Addr) = some x → (some ⟨g22, 0, none⟩ : Option Addr) = some y → x.block ≠ y.block := by (intro x y hx hy; obtain rfl := Option.some.inj hx; obtain rfl := Option.some.inj hy; simp; omega)
    go_wp2_with fail
    refine (toIntSS_any rs1 _ _ _ hn1 hnl1 (HRI1.out.below (by (repeat (first | with_reducible exact Below.refl _ _ | (with_reducible refine bel_next ?_ ?_ (by assumption)) | (with_reducible refine Below.alloc ?_ ?_ _) | (with_reducible refine Below.drew ?_) | (with_reducible refine below_drewN ?_ _) | (with_reducible refine Below.setCell ?_ ?_ _))) <;> (first | omega | (simp; done) | (simp; omega))))).mono ?_
    rintro e w3 ⟨g3, rfl, l3, h3, ⟨rs3, hx3, ho3, hor3⟩, hb3⟩
    have HX3 := Lib.hid hx3
    have HL3 := Lib.hid (show rs3.length = rs1.length from (by have := congrArg List.length HX3.out; simpa using this))
    clear hx3
    have z3 := hb3.size
    (try simp at z3)
    have y3_0 : w.heap.size < w3.heap.size := (by omega)
    have k3_0 := bel_keeps hb3 (b := w.heap.size) (o := 0) (v := .slice ad00 gs.length cap00) (by first | (go_simp; done) | assumption)
    have k3_1 := bel_keeps hb3 (b := w.heap.size) (o := 1) (v := .slice ad01 xs01.length cap01) (by first | (go_simp; done) | assumption)
    clear k2_0 k2_1
    have hR3 := Lib.hid (show RdR w3 (some ⟨g3, 0, none⟩) rs3 from ⟨ho3.rd, fun r hr => (hor3.1 r hr).1.rd⟩)
    have hle3 := Lib.hid (rowsLe_of HX3.out hnl1)
    have HOR3 := Lib.hid hor3
    clear ho3 hor3
    go_wp2_with fail
    refine (sRunCircuit_any gs xs01 rs3 rs1.length HL3.out _ HX3.out _ _ _ _ _ _ _ hm0 hm1 hn1 hle3.out (o12.keep (fun a ha => (by have hh := i12 a ha; exact (by (repeat (first | with_reducible exact Kp.refl _ _ | (with_reducible refine Kp.rng ?_ (by assumption) ?_) | (with_reducible refine Kp.below ?_ (by assumption)) | (with_reducible refine Kp.grown ?_ (by assumption) ?_) | (with_reducible refine Kp.alloc ?_ _) | (with_reducible refine Kp.drew ?_) | (with_reducible refine Kp.drewN ?_ _) | (with_reducible refine Kp.setCell ?_ _ ?_))) <;> (first | omega | (simp; done) | (simp; omega)))))).rd (o22.keep (fun a ha => (by have hh := i22 a ha; exact (by (repeat (first | with_reducible exact Kp.refl _ _ | (with_reducible refine Kp.rng ?_ (by assumption) ?_) | (with_reducible refine Kp.below ?_ (by assumption)) | (with_reducible refine Kp.grown ?_ (by assumption) ?_) | (with_reducible refine Kp.alloc ?_ _) | (with_reducible refine Kp.drew ?_) | (with_reducible refine Kp.drewN ?_ _) | (with_reducible refine Kp.setCell ?_ _ ?_))) <;> (first | omega | (simp; done) | (simp; omega)))))).rd (hR3.out.below (by (repeat (first | with_reducible exact Below.refl _ _ | (with_reducible refine bel_next ?_ ?_ (by assumption)) | (with_reducible refine Below.alloc ?_ ?_ _) | (with_reducible refine Below.drew ?_) | (with_reducible refine below_drewN ?_ _) | (with_reducible refine Below.setCell ?_ ?_ _))) <;> (first | omega | (simp; done) | (simp; omega))))).mono ?_
    rintro e w4 ⟨a4, c4, rfl, o4, hb4⟩
    rw [← HD.out] at o4
    rw [← HD.out, ← HO.out]
    have z4 := hb4.size
    (try simp at z4)
    have y4_0 : w.heap.size < w4.heap.size := (by omega)
    have k4_0 := bel_keeps hb4 (b := w.heap.size) (o := 0) (v := .slice ad00 gs.length cap00) (by first | (go_simp; done) | assumption)
    have k4_1 := bel_keeps hb4 (b := w.heap.size) (o := 1) (v := .slice ad01 xs01.length cap01) (by first | (go_simp; done) | assumption)
    clear k3_0 k3_1
    have i4 := o4.ins
    go_wp2_with fail
    refine (toCircuit_any gs xs01 _ _ _ _ _ hm0 hm1 (HR0.out.below (by (repeat (first | with_reducible exact Below.refl _ _ | (with_reducible refine bel_next ?_ ?_ (by assumption)) | (with_reducible refine Below.alloc ?_ ?_ _) | (with_reducible refine Below.drew ?_) | (with_reducible refine below_drewN ?_ _) | (with_reducible refine Below.setCell ?_ ?_ _))) <;> (first | omega | (simp; done) | (simp; omega)))) (HR1.out.below (by (repeat (first | with_reducible exact Below.refl _ _ | (with_reducible refine bel_next ?_ ?_ (by assumption)) | (with_reducible refine Below.alloc ?_ ?_ _) | (with_reducible refine Below.drew ?_) | (with_reducible refine below_drewN ?_ _) | (with_reducible refine Below.setCell ?_ ?_ _))) <;> (first | omega | (simp; done) | (simp; omega))))).mono ?_
    rintro e w5 ⟨g15, g25, rfl, o15, o25, lt5, hb5⟩
    have z5 := hb5.size
    (try simp at z5)
    have y5_0 : w.heap.size < w5.heap.size := (by omega)
    have k5_0 := bel_keeps hb5 (b := w.heap.size) (o := 0) (v := .slice ad00 gs.length cap00) (by first | (go_simp; done) | assumption)
    have k5_1 := bel_keeps hb5 (b := w.heap.size) (o := 1) (v := .slice ad01 xs01.length cap01) (by first | (go_simp; done) | assumption)
    clear k4_0 k4_1
    have i15 := o15.ins
    have i25 := o25.ins
    have ne5 : ∀ x y, (some ⟨g15, 0, none⟩ : Option Addr) = some x → (some ⟨g25, 0, none⟩ : Option Addr) = some y → x.block ≠ y.block := by (intro x y hx hy; obtain rfl := Option.some.inj hx; obtain rfl := Option.some.inj hy; simp; omega)
    go_wp2_with fail
    obtain ⟨w6, hw6⟩ : ∃ W, W = w5.alloc (.cells #[.slice (some ⟨g15, 0, none⟩) gs.length gs.length, .slice (some ⟨g25, 0, none⟩) xs01.length xs01.length] 30) := ⟨_, rfl⟩
    rw [← hw6]
    have hb6 : Below w5.heap.size w5 w6 := by rw [hw6]; exact (Below.refl _ _).alloc (Nat.le_refl _) _
    have x6 : w5.heap.size < w6.heap.size := by rw [hw6]; simp
    have z6 := hb6.size
    (try simp at z6)
    have y6_0 : w.heap.size < w6.heap.size := (by omega)
    have k6_0 := bel_keeps hb6 (b := w.heap.size) (o := 0) (v := .slice ad00 gs.length cap00) (by first | (go_simp; done) | assumption)
    have k6_1 := bel_keeps hb6 (b := w.heap.size) (o := 1) (v := .slice ad01 xs01.length cap01) (by first | (go_simp; done) | assumption)
    clear k5_0 k5_1
    have kb6_0 : w6.cell? ⟨w5.heap.size, 0, none⟩ = some (.slice (some ⟨g15, 0, none⟩) gs.length gs.length) := by rw [hw6]; go_simp
    have kb6_1 : w6.cell? ⟨w5.heap.size, 1, none⟩ = some (.slice (some ⟨g25, 0, none⟩) xs01.length xs01.length) := by rw [hw6]; go_simp
    clear hw6
    go_wp2_with fail
    refine (toIntSS_any rs1 _ _ _ hn1 hnl1 (HRI1.out.below (by (repeat (first | with_reducible exact Below.refl _ _ | (with_reducible refine bel_next ?_ ?_ (by assumption)) | (with_reducible refine Below.alloc ?_ ?_ _) | (with_reducible refine Below.drew ?_) | (with_reducible refine below_drewN ?_ _) | (with_reducible refine Below.setCell ?_ ?_ _))) <;> (first | omega | (simp; done) | (simp; omega))))).mono ?_
    rintro e w7 ⟨g7, rfl, l7, h7, ⟨rs7, hx7, ho7, hor7⟩, hb7⟩
    have HX7 := Lib.hid hx7
    have HL7 := Lib.hid (show rs7.length = rs1.length from (by have := congrArg List.length HX7.out; simpa using this))
    clear hx7
    have z7 := hb7.size
    (try simp at z7)
    have y7_0 : w.heap.size < w7.heap.size := (by omega)
    have y7_1 : w5.heap.size < w7.heap.size := (by omega)
    have k7_0 := bel_keeps hb7 (b := w.heap.size) (o := 0) (v := .slice ad00 gs.length cap00) (by first | (go_simp; done) | assumption)
    have k7_1 := bel_keeps hb7 (b := w.heap.size) (o := 1) (v := .slice ad01 xs01.length cap01) (by first | (go_simp; done) | assumption)
    have k7_2 := bel_keeps hb7 (b := w5.heap.size) (o := 0) (v := .slice (some ⟨g15, 0, none⟩) gs.length gs.length) (by first | (go_simp; done) | assumption)
    have k7_3 := bel_keeps hb7 (b := w5.heap.size) (o := 1) (v := .slice (some ⟨g25, 0, none⟩) xs01.length xs01.length) (by first | (go_simp; done) | assumption)
    clear k6_0 k6_1 kb6_0 kb6_1
    have hR7 := Lib.hid (show RdR w7 (some ⟨g7, 0, none⟩) rs7 from ⟨ho7.rd, fun r hr => (hor7.1 r hr).1.rd⟩)
    have hle7 := Lib.hid (rowsLe_of HX7.out hnl1)
    have HOR7 := Lib.hid hor7
    clear ho7 hor7
    go_wp2_with fail
    refine (iRunCircuit_any gs xs01 rs7 rs1.length HL7.out _ HX7.out _ _ _ _ _ _ _ hm0 hm1 hn1 hle7.out (o15.keep (fun a ha => (by have hh := i15 a ha; exact (by (repeat (first | with_reducible exact Kp.refl _ _ | (with_reducible refine Kp.rng ?_ (by assumption) ?_) | (with_reducible refine Kp.below ?_ (by assumption)) | (with_reducible refine Kp.grown ?_ (by assumption) ?_) | (with_reducible refine Kp.alloc ?_ _) | (with_reducible refine Kp.drew ?_) | (with_reducible refine Kp.drewN ?_ _) | (with_reducible refine Kp.setCell ?_ _ ?_))) <;> (first | omega | (simp; done) | (simp; omega)))))).rd (o25.keep (fun a ha => (by have hh := i25 a ha; exact (by (repeat (first | with_reducible exact Kp.refl _ _ | (with_reducible refine Kp.rng ?_ (by assumption) ?_) | (with_reducible refine Kp.below ?_ (by assumption)) | (with_reducible refine Kp.grown ?_ (by assumption) ?_) | (with_reducible refine Kp.alloc ?_ _) | (with_reducible refine Kp.drew ?_) | (with_reducible refine Kp.drewN ?_ _) | (with_reducible refine Kp.setCell ?_ _ ?_))) <;> (first | omega | (simp; done) | (simp; omega)))))).rd (hR7.out.below (by (repeat (first | with_reducible exact Below.refl _ _ | (with_reducible refine bel_next ?_ ?_ (by assumption)) | (with_reducible refine Below.alloc ?_ ?_ _) | (with_reducible refine Below.drew ?_) | (with_reducible refine below_drewN ?_ _) | (with_reducible refine Below.setCell ?_ ?_ _))) <;> (first | omega | (simp; done) | (simp; omega))))).mono ?_
    rintro e w8 ⟨a8, c8, rfl, o8, hb8⟩
    rw [← HD.out] at o8
    rw [← HD.out, ← HO.out]
    have z8 := hb8.size
    (try simp at z8)
    have y8_0 : w.heap.size < w8.heap.size := (by omega)
    have y8_1 : w5.heap.size < w8.heap.size := (by omega)
    have k8_0 := bel_keeps hb8 (b := w.heap.size) (o := 0) (v := .slice ad00 gs.length cap00) (by first | (go_simp; done) | assumption)
    have k8_1 := bel_keeps hb8 (b := w.heap.size) (o := 1) (v := .slice ad01 xs01.length cap01) (by first | (go_simp; done) | assumption)
    have k8_2 := bel_keeps hb8 (b := w5.heap.size) (o := 0) (v := .slice (some ⟨g15, 0, none⟩) gs.length gs.length) (by first | (go_simp; done) | assumption)
    have k8_3 := bel_keeps hb8 (b := w5.heap.size) (o := 1) (v := .slice (some ⟨g25, 0, none⟩) xs01.length xs01.length) (by first | (go_simp; done) | assumption)
    clear k7_0 k7_1 k7_2 k7_3
    have i8 := o8.ins
    go_wp2_with fail
    refine (eqIntS_same D _ _ _ _ _ hF (o8.keep (fun a ha => (by have hh := i8 a ha; exact (by (repeat (first | with_reducible exact Kp.refl _ _ | (with_reducible refine Kp.rng ?_ (by assumption) ?_) | (with_reducible refine Kp.below ?_ (by assumption)) | (with_reducible refine Kp.grown ?_ (by assumption) ?_) | (with_reducible refine Kp.alloc ?_ _) | (with_reducible refine Kp.drew ?_) | (with_reducible refine Kp.drewN ?_ _) | (with_reducible refine Kp.setCell ?_ _ ?_))) <;> (first | omega | (simp; done) | (simp; omega)))))).rd (o4.keep (fun a ha => (by have hh := i4 a ha; exact (by (repeat (first | with_reducible exact Kp.refl _ _ | (with_reducible refine Kp.rng ?_ (by assumption) ?_) | (with_reducible refine Kp.below ?_ (by assumption)) | (with_reducible refine Kp.grown ?_ (by assumption) ?_) | (with_reducible refine Kp.alloc ?_ _) | (with_reducible refine Kp.drew ?_) | (with_reducible refine Kp.drewN ?_ _) | (with_reducible refine Kp.setCell ?_ _ ?_))) <;> (first | omega | (simp; done) | (simp; omega)))))).rd).mono ?_
    rintro e _ ⟨rfl, m9, rfl⟩
    obtain ⟨w9, hw9⟩ : ∃ W, W = w8.drewN m9 := ⟨_, rfl⟩
    rw [← hw9]
    have hb9 : Below w8.heap.size w8 w9 := by rw [hw9]; exact below_drewN (Below.refl _ _) _
    clear hw9
    have z9 := hb9.size
    (try simp at z9)
    have y9_0 : w.heap.size < w9.heap.size := (by omega)
    have y9_1 : w5.heap.size < w9.heap.size := (by omega)
    have k9_0 := bel_keeps hb9 (b := w.heap.size) (o := 0) (v := .slice ad00 gs.length cap00) (by first | (go_simp; done) | assumption)
    have k9_1 := bel_keeps hb9 (b := w.heap.size) (o := 1) (v := .slice ad01 xs01.length cap01) (by first | (go_simp; done) | assumption)
    have k9_2 := bel_keeps hb9 (b := w5.heap.size) (o := 0) (v := .slice (some ⟨g15, 0, none⟩) gs.length gs.length) (by first | (go_simp; done) | assumption)
    have k9_3 := bel_keeps hb9 (b := w5.heap.size) (o := 1) (v := .slice (some ⟨g25, 0, none⟩) xs01.length xs01.length) (by first | (go_simp; done) | assumption)
    clear k8_0 k8_1 k8_2 k8_3
    go_wp2_with fail
    apply wp_share2 (F := fun (W : World) (p110 : Nat) (p210 : Nat) => Below w9.heap.size w9 W ∧ True)
    case h1 =>
      go_region_held3 (fun w' => w'.cell? ⟨w5.heap.size, 0, none⟩ = some (.slice (some ⟨g15, 0, none⟩) gs.length gs.length) ∧ w'.cell? ⟨w5.heap.size, 1, none⟩ = some (.slice (some ⟨g25, 0, none⟩) xs01.length xs01.length) ∧ w'.cell? ⟨w.heap.size, 0, none⟩ = some (.slice ad00 gs.length cap00) ∧ w'.cell? ⟨w.heap.size, 1, none⟩ = some (.slice ad01 xs01.length cap01))
        (first | go_keep)
        (first | (go_at_call 19; refine (toCircuit_any gs xs01 _ _ _ _ _ hm0 hm1 (HR0.out.below (by (repeat (first | with_reducible exact Below.refl _ _ | (with_reducible refine bel_next ?_ ?_ (by assumption)) | (with_reducible refine Below.alloc ?_ ?_ _) | (with_reducible refine Below.drew ?_) | (with_reducible refine below_drewN ?_ _) | (with_reducible refine Below.setCell ?_ ?_ _))) <;> (first | omega | (simp; done) | (simp; omega)))) (HR1.out.below (by (repeat (first | with_reducible exact Below.refl _ _ | (with_reducible refine bel_next ?_ ?_ (by assumption)) | (with_reducible refine Below.alloc ?_ ?_ _) | (with_reducible refine Below.drew ?_) | (with_reducible refine below_drewN ?_ _) | (with_reducible refine Below.setCell ?_ ?_ _))) <;> (first | omega | (simp; done) | (simp; omega))))).mono ?_; rintro e v1 ⟨p110, p210, rfl, hp1, hp2, hp3, hv1⟩; have zv1 := hv1.size; (try simp at zv1); have yv1_0 : w5.heap.size < v1.heap.size := (by omega); have nv1_0 : w5.heap.size ≠ v1.heap.size := (by omega); have mv1_0 : v1.heap.size ≠ w5.heap.size := (by omega); have yv1_1 : w.heap.size < v1.heap.size := (by omega); have nv1_1 : w.heap.size ≠ v1.heap.size := (by omega); have mv1_1 : v1.heap.size ≠ w.heap.size := (by omega); have kv1_0 := bel_keeps hv1 (b := w5.heap.size) (o := 0) (v := .slice (some ⟨g15, 0, none⟩) gs.length gs.length) (by first | (go_simp; done) | assumption); have kv1_1 := bel_keeps hv1 (b := w5.heap.size) (o := 1) (v := .slice (some ⟨g25, 0, none⟩) xs01.length xs01.length) (by first | (go_simp; done) | assumption); have kv1_2 := bel_keeps hv1 (b := w.heap.size) (o := 0) (v := .slice ad00 gs.length cap00) (by first | (go_simp; done) | assumption); have kv1_3 := bel_keeps hv1 (b := w.heap.size) (o := 1) (v := .slice ad01 xs01.length cap01) (by first | (go_simp; done) | assumption)) | (go_at_call 21; refine (eqCircuit_same gs xs01 _ _ _ _ _ _ _ _ _ hm0 hm1 (o15.keep (fun a ha => (by have hh := i15 a ha; exact (by (repeat (first | with_reducible exact Kp.refl _ _ | (with_reducible refine Kp.rng ?_ (by assumption) ?_) | (with_reducible refine Kp.below ?_ (by assumption)) | (with_reducible refine Kp.grown ?_ (by assumption) ?_) | (with_reducible refine Kp.alloc ?_ _) | (with_reducible refine Kp.drew ?_) | (with_reducible refine Kp.drewN ?_ _) | (with_reducible refine Kp.setCell ?_ _ ?_))) <;> (first | omega | (simp; done) | (simp; omega)))))).rd (o25.keep (fun a ha => (by have hh := i25 a ha; exact (by (repeat (first | with_reducible exact Kp.refl _ _ | (with_reducible refine Kp.rng ?_ (by assumption) ?_) | (with_reducible refine Kp.below ?_ (by assumption)) | (with_reducible refine Kp.grown ?_ (by assumption) ?_) | (with_reducible refine Kp.alloc ?_ _) | (with_reducible refine Kp.drew ?_) | (with_reducible refine Kp.drewN ?_ _) | (with_reducible refine Kp.setCell ?_ _ ?_))) <;> (first | omega | (simp; done) | (simp; omega)))))).rd (hp1.rd.below (by (repeat (first | with_reducible exact Below.refl _ _ | (with_reducible refine bel_next ?_ ?_ (by assumption)) | (with_reducible refine Below.alloc ?_ ?_ _) | (with_reducible refine Below.drew ?_) | (with_reducible refine below_drewN ?_ _) | (with_reducible refine Below.setCell ?_ ?_ _))) <;> (first | omega | (simp; done) | (simp; omega)))) (hp2.rd.below (by (repeat (first | with_reducible exact Below.refl _ _ | (with_reducible refine bel_next ?_ ?_ (by assumption)) | (with_reducible refine Below.alloc ?_ ?_ _) | (with_reducible refine Below.drew ?_) | (with_reducible refine below_drewN ?_ _) | (with_reducible refine Below.setCell ?_ ?_ _))) <;> (first | omega | (simp; done) | (simp; omega))))).mono ?_; rintro e v2 ⟨rfl, hv2⟩; have zv2 := hv2.size; (try simp at zv2); have yv2_0 : w5.heap.size < v2.heap.size := (by omega); have nv2_0 : w5.heap.size ≠ v2.heap.size := (by omega); have mv2_0 : v2.heap.size ≠ w5.heap.size := (by omega); have yv2_1 : w.heap.size < v2.heap.size := (by omega); have nv2_1 : w.heap.size ≠ v2.heap.size := (by omega); have mv2_1 : v2.heap.size ≠ w.heap.size := (by omega); have kv2_0 := bel_keeps hv2 (b := w5.heap.size) (o := 0) (v := .slice (some ⟨g15, 0, none⟩) gs.length gs.length) (by first | (go_simp; done) | assumption); have kv2_1 := bel_keeps hv2 (b := w5.heap.size) (o := 1) (v := .slice (some ⟨g25, 0, none⟩) xs01.length xs01.length) (by first | (go_simp; done) | assumption); have kv2_2 := bel_keeps hv2 (b := w.heap.size) (o := 0) (v := .slice ad00 gs.length cap00) (by first | (go_simp; done) | assumption); have kv2_3 := bel_keeps hv2 (b := w.heap.size) (o := 1) (v := .slice ad01 xs01.length cap01) (by first | (go_simp; done) | assumption)))
      ·
        refine ⟨rfl, p110, p210, ⟨(by (repeat (first | with_reducible exact Below.refl _ _ | (with_reducible refine bel_next ?_ ?_ (by assumption)) | (with_reducible refine Below.alloc ?_ ?_ _) | (with_reducible refine Below.drew ?_) | (with_reducible refine below_drewN ?_ _) | (with_reducible refine Below.setCell ?_ ?_ _))) <;> (first | omega | (simp; done) | (simp; omega))), trivial⟩, ?_⟩
        generalize v2 = W
        rfl
    rintro w10 p110 p210 ⟨hb10, r10_0⟩
    have z10 := hb10.size
    (try simp at z10)
    have y10_0 : w.heap.size < w10.heap.size := (by omega)
    have y10_1 : w5.heap.size < w10.heap.size := (by omega)
    have k10_0 := bel_keeps hb10 (b := w.heap.size) (o := 0) (v := .slice ad00 gs.length cap00) (by first | (go_simp; done) | assumption)
    have k10_1 := bel_keeps hb10 (b := w.heap.size) (o := 1) (v := .slice ad01 xs01.length cap01) (by first | (go_simp; done) | assumption)
    have k10_2 := bel_keeps hb10 (b := w5.heap.size) (o := 0) (v := .slice (some ⟨g15, 0, none⟩) gs.length gs.length) (by first | (go_simp; done) | assumption)
    have k10_3 := bel_keeps hb10 (b := w5.heap.size) (o := 1) (v := .slice (some ⟨g25, 0, none⟩) xs01.length xs01.length) (by first | (go_simp; done) | assumption)
    clear k9_0 k9_1 k9_2 k9_3
    go_wp2_with fail
    refine (toIntSS_any rs1 _ _ _ hn1 hnl1 (HRI1.out.below (by (repeat (first | with_reducible exact Below.refl _ _ | (with_reducible refine bel_next ?_ ?_ (by assumption)) | (with_reducible refine Below.alloc ?_ ?_ _) | (with_reducible refine Below.drew ?_) | (with_reducible refine below_drewN ?_ _) | (with_reducible refine Below.setCell ?_ ?_ _))) <;> (first | omega | (simp; done) | (simp; omega))))).mono ?_
    rintro e w11 ⟨g11, rfl, l11, h11, ⟨rs11, hx11, ho11, hor11⟩, hb11⟩
    have HX11 := Lib.hid hx11
    have HL11 := Lib.hid (show rs11.length = rs1.length from (by have := congrArg List.length HX11.out; simpa using this))
    clear hx11
    have z11 := hb11.size
    (try simp at z11)
    have y11_0 : w.heap.size < w11.heap.size := (by omega)
    have y11_1 : w5.heap.size < w11.heap.size := (by omega)
    have k11_0 := bel_keeps hb11 (b := w.heap.size) (o := 0) (v := .slice ad00 gs.length cap00) (by first | (go_simp; done) | assumption)
    have k11_1 := bel_keeps hb11 (b := w.heap.size) (o := 1) (v := .slice ad01 xs01.length cap01) (by first | (go_simp; done) | assumption)
    have k11_2 := bel_keeps hb11 (b := w5.heap.size) (o := 0) (v := .slice (some ⟨g15, 0, none⟩) gs.length gs.length) (by first | (go_simp; done) | assumption)
    have k11_3 := bel_keeps hb11 (b := w5.heap.size) (o := 1) (v := .slice (some ⟨g25, 0, none⟩) xs01.length xs01.length) (by first | (go_simp; done) | assumption)
    clear k10_0 k10_1 k10_2 k10_3
    have hR11 := Lib.hid (show RdR w11 (some ⟨g11, 0, none⟩) rs11 from ⟨ho11.rd, fun r hr => (hor11.1 r hr).1.rd⟩)
    have hle11 := Lib.hid (rowsLe_of HX11.out hnl1)
    have HOR11 := Lib.hid hor11
    clear ho11 hor11
    have hcc := eqIntSS_same rs7 rs11 (some ⟨g7, 0, none⟩) (some ⟨g11, 0, none⟩) rs1.length rs1.length w11 (by rw [HL7.out]; exact hn1) (rowsLe_of' HX7.out hnl1) (by rw [HX11.out, HX7.out]) (hR7.out.below (by (repeat (first | with_reducible exact Below.refl _ _ | (with_reducible refine bel_next ?_ ?_ (by assumption)) | (with_reducible refine Below.alloc ?_ ?_ _) | (with_reducible refine Below.drew ?_) | (with_reducible refine below_drewN ?_ _) | (with_reducible refine Below.setCell ?_ ?_ _))) <;> (first | omega | (simp; done) | (simp; omega)))) hR11.out
    rw [HL7.out] at hcc
    go_wp2_with fail
    refine (hcc).mono ?_
    rintro e _ ⟨rfl, m13, rfl⟩
    obtain ⟨w13, hw13⟩ : ∃ W, W = w11.drewN m13 := ⟨_, rfl⟩
    rw [← hw13]
    have hb13 : Below w11.heap.size w11 w13 := by rw [hw13]; exact below_drewN (Below.refl _ _) _
    clear hw13
    have z13 := hb13.size
    (try simp at z13)
    have y13_0 : w.heap.size < w13.heap.size := (by omega)
    have y13_1 : w5.heap.size < w13.heap.size := (by omega)
    have k13_0 := bel_keeps hb13 (b := w.heap.size) (o := 0) (v := .slice ad00 gs.length cap00) (by first | (go_simp; done) | assumption)
    have k13_1 := bel_keeps hb13 (b := w.heap.size) (o := 1) (v := .slice ad01 xs01.length cap01) (by first | (go_simp; done) | assumption)
    have k13_2 := bel_keeps hb13 (b := w5.heap.size) (o := 0) (v := .slice (some ⟨g15, 0, none⟩) gs.length gs.length) (by first | (go_simp; done) | assumption)
    have k13_3 := bel_keeps hb13 (b := w5.heap.size) (o := 1) (v := .slice (some ⟨g25, 0, none⟩) xs01.length xs01.length) (by first | (go_simp; done) | assumption)
    clear k11_0 k11_1 k11_2 k11_3
    clear hcc
    go_wp2_with fail
    refine (markCircuit_any (gs.length) (xs01.length) _ _ _ _ w4.heap.size w5.heap.size 1 (some ⟨g15, 0, none⟩) (some ⟨g25, 0, none⟩) _ _ _ (by omega) (by omega) hm0 hm1 (o15.keep (fun a ha => (by have hh := i15 a ha; exact (by (repeat (first | with_reducible exact Kp.refl _ _ | (with_reducible refine Kp.rng ?_ (by assumption) ?_) | (with_reducible refine Kp.below ?_ (by assumption)) | (with_reducible refine Kp.grown ?_ (by assumption) ?_) | (with_reducible refine Kp.alloc ?_ _) | (with_reducible refine Kp.drew ?_) | (with_reducible refine Kp.drewN ?_ _) | (with_reducible refine Kp.setCell ?_ _ ?_))) <;> (first | omega | (simp; done) | (simp; omega)))))) (o25.keep (fun a ha => (by have hh := i25 a ha; exact (by (repeat (first | with_reducible exact Kp.refl _ _ | (with_reducible refine Kp.rng ?_ (by assumption) ?_) | (with_reducible refine Kp.below ?_ (by assumption)) | (with_reducible refine Kp.grown ?_ (by assumption) ?_) | (with_reducible refine Kp.alloc ?_ _) | (with_reducible refine Kp.drew ?_) | (with_reducible refine Kp.drewN ?_ _) | (with_reducible refine Kp.setCell ?_ _ ?_))) <;> (first | omega | (simp; done) | (simp; omega)))))) i15 i25 ne5 (by omega) (by first | omega | (simp; done) | (simp; omega))).mono ?_
    rintro e w14 ⟨rfl, o114, o214, hb14, hr14⟩
    have z14 := hb14.size
    (try simp at z14)
    have y14_0 : w.heap.size < w14.heap.size := (by omega)
    have y14_1 : w5.heap.size < w14.heap.size := (by omega)
    have k14_0 : w14.cell? ⟨w.heap.size, 0, none⟩ = some (.slice ad00 gs.length cap00) := hr14.keeps (by omega) (by first | (go_simp; done) | assumption)
    have k14_1 : w14.cell? ⟨w.heap.size, 1, none⟩ = some (.slice ad01 xs01.length cap01) := hr14.keeps (by omega) (by first | (go_simp; done) | assumption)
    have k14_2 : w14.cell? ⟨w5.heap.size, 0, none⟩ = some (.slice (some ⟨g15, 0, none⟩) gs.length gs.length) := hr14.keeps (by omega) (by first | (go_simp; done) | assumption)
    have k14_3 : w14.cell? ⟨w5.heap.size, 1, none⟩ = some (.slice (some ⟨g25, 0, none⟩) xs01.length xs01.length) := hr14.keeps (by omega) (by first | (go_simp; done) | assumption)
    clear k13_0 k13_1 k13_2 k13_3
    have hcc := markIntSS_k (1 + ((gs.length * 3 : Nat) : Int) + xs01.length) (by omega) (by omega) rs7 (some ⟨g7, 0, none⟩) rs1.length w6.heap.size (g7 + 1) w7.heap.size w14 (by rw [HL7.out]; exact hn1) (by rw [tot_map HX7.out]; exact htot) (hR7.out.1.keep (fun b off e => by (obtain rfl : g7 = b := (by simpa using congrArg Addr.block (Option.some.inj e))); exact (by (repeat (first | with_reducible exact Kp.refl _ _ | (with_reducible refine Kp.rng ?_ (by assumption) ?_) | (with_reducible refine Kp.below ?_ (by assumption)) | (with_reducible refine Kp.grown ?_ (by assumption) ?_) | (with_reducible refine Kp.alloc ?_ _) | (with_reducible refine Kp.drew ?_) | (with_reducible refine Kp.drewN ?_ _) | (with_reducible refine Kp.setCell ?_ _ ?_))) <;> (first | omega | (simp; done) | (simp; omega))))) (by intro a ha; obtain rfl : _ = a := Option.some.inj ha; simp) (HOR7.out.keep fun b hb1 hb2 => (by (repeat (first | with_reducible exact Kp.refl _ _ | (with_reducible refine Kp.rng ?_ (by assumption) ?_) | (with_reducible refine Kp.below ?_ (by assumption)) | (with_reducible refine Kp.grown ?_ (by assumption) ?_) | (with_reducible refine Kp.alloc ?_ _) | (with_reducible refine Kp.drew ?_) | (with_reducible refine Kp.drewN ?_ _) | (with_reducible refine Kp.setCell ?_ _ ?_))) <;> (first | omega | (simp; done) | (simp; omega)))) (by first | omega | (simp; done) | (simp; omega)) (by omega)
    rw [HL7.out] at hcc
    go_wp2_with fail
    refine hcc.mono ?_
    clear hcc
    rintro e w15 ⟨v15, rfl, p15, _, hb15, hr15⟩
    have hv15 : decide (v15 < 0) = false := decide_eq_false (by omega)
    have z15 := hb15.size
    (try simp at z15)
    have y15_0 : w.heap.size < w15.heap.size := (by omega)
    have y15_1 : w5.heap.size < w15.heap.size := (by omega)
    have k15_0 : w15.cell? ⟨w.heap.size, 0, none⟩ = some (.slice ad00 gs.length cap00) := hr15.keeps (by omega) (by first | (go_simp; done) | assumption)
    have k15_1 : w15.cell? ⟨w.heap.size, 1, none⟩ = some (.slice ad01 xs01.length cap01) := hr15.keeps (by omega) (by first | (go_simp; done) | assumption)
    have k15_2 : w15.cell? ⟨w5.heap.size, 0, none⟩ = some (.slice (some ⟨g15, 0, none⟩) gs.length gs.length) := hr15.keeps (by omega) (by first | (go_simp; done) | assumption)
    have k15_3 : w15.cell? ⟨w5.heap.size, 1, none⟩ = some (.slice (some ⟨g25, 0, none⟩) xs01.length xs01.length) := hr15.keeps (by omega) (by first | (go_simp; done) | assumption)
    clear k14_0 k14_1 k14_2 k14_3
    go_wp2_with fail
    refine (eqIntS_same D _ _ _ _ _ hF (o8.keep (fun a ha => (by have hh := i8 a ha; exact (by (repeat (first | with_reducible exact Kp.refl _ _ | (with_reducible refine Kp.rng ?_ (by assumption) ?_) | (with_reducible refine Kp.below ?_ (by assumption)) | (with_reducible refine Kp.grown ?_ (by assumption) ?_) | (with_reducible refine Kp.alloc ?_ _) | (with_reducible refine Kp.drew ?_) | (with_reducible refine Kp.drewN ?_ _) | (with_reducible refine Kp.setCell ?_ _ ?_))) <;> (first | omega | (simp; done) | (simp; omega)))))).rd (o4.keep (fun a ha => (by have hh := i4 a ha; exact (by (repeat (first | with_reducible exact Kp.refl _ _ | (with_reducible refine Kp.rng ?_ (by assumption) ?_) | (with_reducible refine Kp.below ?_ (by assumption)) | (with_reducible refine Kp.grown ?_ (by assumption) ?_) | (with_reducible refine Kp.alloc ?_ _) | (with_reducible refine Kp.drew ?_) | (with_reducible refine Kp.drewN ?_ _) | (with_reducible refine Kp.setCell ?_ _ ?_))) <;> (first | omega | (simp; done) | (simp; omega)))))).rd).mono ?_
    rintro e _ ⟨rfl, m16, rfl⟩
    obtain ⟨w16, hw16⟩ : ∃ W, W = w15.drewN m16 := ⟨_, rfl⟩
    rw [← hw16]
    have hb16 : Below w15.heap.size w15 w16 := by rw [hw16]; exact below_drewN (Below.refl _ _) _
    clear hw16
    have z16 := hb16.size
    (try simp at z16)
    have y16_0 : w.heap.size < w16.heap.size := (by omega)
    have y16_1 : w5.heap.size < w16.heap.size := (by omega)
    have k16_0 := bel_keeps hb16 (b := w.heap.size) (o := 0) (v := .slice ad00 gs.length cap00) (by first | (go_simp; done) | assumption)
    have k16_1 := bel_keeps hb16 (b := w.heap.size) (o := 1) (v := .slice ad01 xs01.length cap01) (by first | (go_simp; done) | assumption)
    have k16_2 := bel_keeps hb16 (b := w5.heap.size) (o := 0) (v := .slice (some ⟨g15, 0, none⟩) gs.length gs.length) (by first | (go_simp; done) | assumption)
    have k16_3 := bel_keeps hb16 (b := w5.heap.size) (o := 1) (v := .slice (some ⟨g25, 0, none⟩) xs01.length xs01.length) (by first | (go_simp; done) | assumption)
    clear k15_0 k15_1 k15_2 k15_3
    go_wp2_with fail
    refine (markIntS_rng D.length _ _ w7.heap.size w8.heap.size 1 a8 _ _ (by omega) (by omega) hF (o8.keep (fun a ha => (by have hh := i8 a ha; exact (by (repeat (first | with_reducible exact Kp.refl _ _ | (with_reducible refine Kp.rng ?_ (by assumption) ?_) | (with_reducible refine Kp.below ?_ (by assumption)) | (with_reducible refine Kp.grown ?_ (by assumption) ?_) | (with_reducible refine Kp.alloc ?_ _) | (with_reducible refine Kp.drew ?_) | (with_reducible refine Kp.drewN ?_ _) | (with_reducible refine Kp.setCell ?_ _ ?_))) <;> (first | omega | (simp; done) | (simp; omega)))))) i8 (by first | omega | (simp; done) | (simp; omega))).mono ?_
    rintro e w17 ⟨rfl, ho17, hb17, hr17⟩
    have z17 := hb17.size
    (try simp at z17)
    have y17_0 : w.heap.size < w17.heap.size := (by omega)
    have y17_1 : w5.heap.size < w17.heap.size := (by omega)
    have k17_0 : w17.cell? ⟨w.heap.size, 0, none⟩ = some (.slice ad00 gs.length cap00) := hr17.keeps (by omega) (by first | (go_simp; done) | assumption)
    have k17_1 : w17.cell? ⟨w.heap.size, 1, none⟩ = some (.slice ad01 xs01.length cap01) := hr17.keeps (by omega) (by first | (go_simp; done) | assumption)
    have k17_2 : w17.cell? ⟨w5.heap.size, 0, none⟩ = some (.slice (some ⟨g15, 0, none⟩) gs.length gs.length) := hr17.keeps (by omega) (by first | (go_simp; done) | assumption)
    have k17_3 : w17.cell? ⟨w5.heap.size, 1, none⟩ = some (.slice (some ⟨g25, 0, none⟩) xs01.length xs01.length) := hr17.keeps (by omega) (by first | (go_simp; done) | assumption)
    clear k16_0 k16_1 k16_2 k16_3
    go_wp2_with fail
    refine (heldIntS_any D.length 1 _ _ _ (by omega) (by omega) hF (ho17.keep (fun a ha => (by have hh := i8 a ha; exact (by (repeat (first | with_reducible exact Kp.refl _ _ | (with_reducible refine Kp.rng ?_ (by assumption) ?_) | (with_reducible refine Kp.below ?_ (by assumption)) | (with_reducible refine Kp.grown ?_ (by assumption) ?_) | (with_reducible refine Kp.alloc ?_ _) | (with_reducible refine Kp.drew ?_) | (with_reducible refine Kp.drewN ?_ _) | (with_reducible refine Kp.setCell ?_ _ ?_))) <;> (first | omega | (simp; done) | (simp; omega)))))).rd).mono ?_
    rintro e _ ⟨rfl, rfl⟩
    go_wp2_with fail
    refine (toCircuit_any gs xs01 _ _ _ _ _ hm0 hm1 (HR0.out.below (by (repeat (first | with_reducible exact Below.refl _ _ | (with_reducible refine bel_next ?_ ?_ (by assumption)) | (with_reducible refine Below.alloc ?_ ?_ _) | (with_reducible refine Below.drew ?_) | (with_reducible refine below_drewN ?_ _) | (with_reducible refine Below.setCell ?_ ?_ _))) <;> (first | omega | (simp; done) | (simp; omega)))) (HR1.out.below (by (repeat (first | with_reducible exact Below.refl _ _ | (with_reducible refine bel_next ?_ ?_ (by assumption)) | (with_reducible refine Below.alloc ?_ ?_ _) | (with_reducible refine Below.drew ?_) | (with_reducible refine below_drewN ?_ _) | (with_reducible refine Below.setCell ?_ ?_ _))) <;> (first | omega | (simp; done) | (simp; omega))))).mono ?_
    rintro e w18 ⟨g118, g218, rfl, o118, o218, lt18, hb18⟩
    have z18 := hb18.size
    (try simp at z18)
    have y18_0 : w.heap.size < w18.heap.size := (by omega)
    have y18_1 : w5.heap.size < w18.heap.size := (by omega)
    have k18_0 := bel_keeps hb18 (b := w.heap.size) (o := 0) (v := .slice ad00 gs.length cap00) (by first | (go_simp; done) | assumption)
    have k18_1 := bel_keeps hb18 (b := w.heap.size) (o := 1) (v := .slice ad01 xs01.length cap01) (by first | (go_simp; done) | assumption)
    have k18_2 := bel_keeps hb18 (b := w5.heap.size) (o := 0) (v := .slice (some ⟨g15, 0, none⟩) gs.length gs.length) (by first | (go_simp; done) | assumption)
    have k18_3 := bel_keeps hb18 (b := w5.heap.size) (o := 1) (v := .slice (some ⟨g25, 0, none⟩) xs01.length xs01.length) (by first | (go_simp; done) | assumption)
    clear k17_0 k17_1 k17_2 k17_3
    have i118 := o118.ins
    have i218 := o218.ins
    have ne18 : ∀ x y, (some ⟨g118, 0, none⟩ : Option Addr) = some x → (some ⟨g218, 0, none⟩ : Option Addr) = some y → x.block ≠ y.block := by (intro x y hx hy; obtain rfl := Option.some.inj hx; obtain rfl := Option.some.inj hy; simp; omega)
    go_wp2_with fail
    refine (toIntSS_any rs1 _ _ _ hn1 hnl1 (HRI1.out.below (by (repeat (first | with_reducible exact Below.refl _ _ | (with_reducible refine bel_next ?_ ?_ (by assumption)) | (with_reducible refine Below.alloc ?_ ?_ _) | (with_reducible refine Below.drew ?_) | (with_reducible refine below_drewN ?_ _) | (with_reducible refine Below.setCell ?_ ?_ _))) <;> (first | omega | (simp; done) | (simp; omega))))).mono ?_
    rintro e w19 ⟨g19, rfl, l19, h19, ⟨rs19, hx19, ho19, hor19⟩, hb19⟩
    have HX19 := Lib.hid hx19
    have HL19 := Lib.hid (show rs19.length = rs1.length from (by have := congrArg List.length HX19.out; simpa using this))
    clear hx19
    have z19 := hb19.size
    (try simp at z19)
    have y19_0 : w.heap.size < w19.heap.size := (by omega)
    have y19_1 : w5.heap.size < w19.heap.size := (by omega)
    have k19_0 := bel_keeps hb19 (b := w.heap.size) (o := 0) (v := .slice ad00 gs.length cap00) (by first | (go_simp; done) | assumption)
    have k19_1 := bel_keeps hb19 (b := w.heap.size) (o := 1) (v := .slice ad01 xs01.length cap01) (by first | (go_simp; done) | assumption)
    have k19_2 := bel_keeps hb19 (b := w5.heap.size) (o := 0) (v := .slice (some ⟨g15, 0, none⟩) gs.length gs.length) (by first | (go_simp; done) | assumption)
    have k19_3 := bel_keeps hb19 (b := w5.heap.size) (o := 1) (v := .slice (some ⟨g25, 0, none⟩) xs01.length xs01.length) (by first | (go_simp; done) | assumption)
    clear k18_0 k18_1 k18_2 k18_3
    have hR19 := Lib.hid (show RdR w19 (some ⟨g19, 0, none⟩) rs19 from ⟨ho19.rd, fun r hr => (hor19.1 r hr).1.rd⟩)
    have hle19 := Lib.hid (rowsLe_of HX19.out hnl1)
    have HOR19 := Lib.hid hor19
    clear ho19 hor19
    go_wp2_with fail
    refine (iRunCircuit_any gs xs01 rs19 rs1.length HL19.out _ HX19.out _ _ _ _ _ _ _ hm0 hm1 hn1 hle19.out (o118.keep (fun a ha => (by have hh := i118 a ha; exact (by (repeat (first | with_reducible exact Kp.refl _ _ | (with_reducible refine Kp.rng ?_ (by assumption) ?_) | (with_reducible refine Kp.below ?_ (by assumption)) | (with_reducible refine Kp.grown ?_ (by assumption) ?_) | (with_reducible refine Kp.alloc ?_ _) | (with_reducible refine Kp.drew ?_) | (with_reducible refine Kp.drewN ?_ _) | (with_reducible refine Kp.setCell ?_ _ ?_))) <;> (first | omega | (simp; done) | (simp; omega)))))).rd (o218.keep (fun a ha => (by have hh := i218 a ha; exact (by (repeat (first | with_reducible exact Kp.refl _ _ | (with_reducible refine Kp.rng ?_ (by assumption) ?_) | (with_reducible refine Kp.below ?_ (by assumption)) | (with_reducible refine Kp.grown ?_ (by assumption) ?_) | (with_reducible refine Kp.alloc ?_ _) | (with_reducible refine Kp.drew ?_) | (with_reducible refine Kp.drewN ?_ _) | (with_reducible refine Kp.setCell ?_ _ ?_))) <;> (first | omega | (simp; done) | (simp; omega)))))).rd (hR19.out.below (by (repeat (first | with_reducible exact Below.refl _ _ | (with_reducible refine bel_next ?_ ?_ (by assumption)) | (with_reducible refine Below.alloc ?_ ?_ _) | (with_reducible refine Below.drew ?_) | (with_reducible refine below_drewN ?_ _) | (with_reducible refine Below.setCell ?_ ?_ _))) <;> (first | omega | (simp; done) | (simp; omega))))).mono ?_
    rintro e w20 ⟨a20, c20, rfl, o20, hb20⟩
    rw [← HD.out] at o20
    rw [← HD.out, ← HO.out]
    have z20 := hb20.size
    (try simp at z20)
    have y20_0 : w.heap.size < w20.heap.size := (by omega)
    have y20_1 : w5.heap.size < w20.heap.size := (by omega)
    have k20_0 := bel_keeps hb20 (b := w.heap.size) (o := 0) (v := .slice ad00 gs.length cap00) (by first | (go_simp; done) | assumption)
    have k20_1 := bel_keeps hb20 (b := w.heap.size) (o := 1) (v := .slice ad01 xs01.length cap01) (by first | (go_simp; done) | assumption)
    have k20_2 := bel_keeps hb20 (b := w5.heap.size) (o := 0) (v := .slice (some ⟨g15, 0, none⟩) gs.length gs.length) (by first | (go_simp; done) | assumption)
    have k20_3 := bel_keeps hb20 (b := w5.heap.size) (o := 1) (v := .slice (some ⟨g25, 0, none⟩) xs01.length xs01.length) (by first | (go_simp; done) | assumption)
    clear k19_0 k19_1 k19_2 k19_3
    have i20 := o20.ins
    go_wp2_with fail
    refine (eqIntS_same D _ _ _ _ _ hF (o20.keep (fun a ha => (by have hh := i20 a ha; exact (by (repeat (first | with_reducible exact Kp.refl _ _ | (with_reducible refine Kp.rng ?_ (by assumption) ?_) | (with_reducible refine Kp.below ?_ (by assumption)) | (with_reducible refine Kp.grown ?_ (by assumption) ?_) | (with_reducible refine Kp.alloc ?_ _) | (with_reducible refine Kp.drew ?_) | (with_reducible refine Kp.drewN ?_ _) | (with_reducible refine Kp.setCell ?_ _ ?_))) <;> (first | omega | (simp; done) | (simp; omega)))))).rd (o4.keep (fun a ha => (by have hh := i4 a ha; exact (by (repeat (first | with_reducible exact Kp.refl _ _ | (with_reducible refine Kp.rng ?_ (by assumption) ?_) | (with_reducible refine Kp.below ?_ (by assumption)) | (with_reducible refine Kp.grown ?_ (by assumption) ?_) | (with_reducible refine Kp.alloc ?_ _) | (with_reducible refine Kp.drew ?_) | (with_reducible refine Kp.drewN ?_ _) | (with_reducible refine Kp.setCell ?_ _ ?_))) <;> (first | omega | (simp; done) | (simp; omega)))))).rd).mono ?_
    rintro e _ ⟨rfl, m21, rfl⟩
    obtain ⟨w21, hw21⟩ : ∃ W, W = w20.drewN m21 := ⟨_, rfl⟩
    rw [← hw21]
    have hb21 : Below w20.heap.size w20 w21 := by rw [hw21]; exact below_drewN (Below.refl _ _) _
    clear hw21
    have z21 := hb21.size
    (try simp at z21)
    have y21_0 : w.heap.size < w21.heap.size := (by omega)
    have y21_1 : w5.heap.size < w21.heap.size := (by omega)
    have k21_0 := bel_keeps hb21 (b := w.heap.size) (o := 0) (v := .slice ad00 gs.length cap00) (by first | (go_simp; done) | assumption)
    have k21_1 := bel_keeps hb21 (b := w.heap.size) (o := 1) (v := .slice ad01 xs01.length cap01) (by first | (go_simp; done) | assumption)
    have k21_2 := bel_keeps hb21 (b := w5.heap.size) (o := 0) (v := .slice (some ⟨g15, 0, none⟩) gs.length gs.length) (by first | (go_simp; done) | assumption)
    have k21_3 := bel_keeps hb21 (b := w5.heap.size) (o := 1) (v := .slice (some ⟨g25, 0, none⟩) xs01.length xs01.length) (by first | (go_simp; done) | assumption)
    clear k20_0 k20_1 k20_2 k20_3
    go_wp2_with fail
    refine (heldIntS_any D.length 1 _ _ _ (by omega) (by omega) hF (ho17.keep (fun a ha => (by have hh := i8 a ha; exact (by (repeat (first | with_reducible exact Kp.refl _ _ | (with_reducible refine Kp.rng ?_ (by assumption) ?_) | (with_reducible refine Kp.below ?_ (by assumption)) | (with_reducible refine Kp.grown ?_ (by assumption) ?_) | (with_reducible refine Kp.alloc ?_ _) | (with_reducible refine Kp.drew ?_) | (with_reducible refine Kp.drewN ?_ _) | (with_reducible refine Kp.setCell ?_ _ ?_))) <;> (first | omega | (simp; done) | (simp; omega)))))).rd).mono ?_
    rintro e _ ⟨rfl, rfl⟩
    go_wp2_with fail
    go_ret
    exact ⟨rfl, (by (repeat (first | with_reducible exact Below.refl _ _ | (with_reducible refine bel_next ?_ ?_ (by assumption)) | (with_reducible refine Below.alloc ?_ ?_ _) | (with_reducible refine Below.drew ?_) | (with_reducible refine below_drewN ?_ _) | (with_reducible refine Below.setCell ?_ ?_ _))) <;> (first | omega | (simp; done) | (simp; omega)))⟩
end Go.Proofs.Ytfpblgbokmpmjaa

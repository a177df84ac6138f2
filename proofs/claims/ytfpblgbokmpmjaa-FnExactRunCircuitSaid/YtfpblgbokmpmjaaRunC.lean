/- RunCircuit, both. -/
import Derived.Test.YtfpblgbokmpmjaaEval
import Derived.Test.YtfpblgbokmpmjaaBitFacts
import Derived.Test.YtfpblgbokmpmjaaShare
import Derived.Deep.RegionHeld3
namespace Go.Proofs.Ytfpblgbokmpmjaa
open Go.RowKit
set_option linter.unusedVariables false
set_option linter.unusedSimpArgs false

def rcB (gs : List Gt) (os : List Int) (xss : List (List Int)) : Bool := circOk gs os && (decide (os.length % 4 = 0) && inputsOk xss)
def rcOuts (gs : List Gt) (os : List Int) (xss : List (List Int)) : List Int := if rcB gs os xss then wordsOf (evalOuts gs os (inputBits xss)) else []
theorem bitsB_in {rs : List Rw} (h : inputsOk (rs.map Rw.xs) = true) : bitsB (inputBits (rs.map Rw.xs)) = true := by
  have h1 := (input_words h).1
  have h2 : inputBits (rs.map Rw.xs) = bitsT (rs.map Rw.xs) 80 := by unfold inputBits; rw [if_pos h]
  unfold bitsB
  rw [h1, h2, allB_bitsT]; rfl
theorem wordsOf_le (xs : List Int) : (wordsOf xs).length ≤ xs.length := by
  unfold wordsOf; split
  · have := words_len xs; omega
  · simp
theorem rcOuts_le (gs : List Gt) (os : List Int) (xss : List (List Int)) : (rcOuts gs os xss).length ≤ os.length := by
  unfold rcOuts; split
  · exact Nat.le_trans (wordsOf_le _) (evalOuts_len _ _ _)
  · simp
theorem inputBits_le (xss : List (List Int)) : (inputBits xss).length ≤ 1048576 := by
  unfold inputBits; split
  · rw [bitsT_length]; omega
  · simp
theorem sInputBits_n (rs : List Rw) (nn : Nat) (hn : rs.length = nn) (xss : List (List Int)) (hx : rs.map Rw.xs = xss) (ad : Option Addr) (cp : Nat) (w : World) (hm : nn ≤ maxLen) (hml : rowsLe rs) (hr : RdR w ad rs) :
    Calls Try.prog 82 #[.slice ad nn cp] w fun e w' => ∃ a' c', e = .returned (.slice a' (inputBits xss).length c') ∧
      Own w' w.heap.size 3 1 a' (inputBits xss).length c' (I64 (inputBits xss)) ∧ Below w.heap.size w w' := by
  subst hn; subst hx; exact sInputBits_any rs ad cp w hm hml hr

set_option maxRecDepth 20000 in
set_option maxHeartbeats 4000000 in
theorem iRunCircuit_any (gs : List Gt) (os : List Int) (rs : List Rw) (nn : Nat) (hn : rs.length = nn) (xss : List (List Int)) (hx : rs.map Rw.xs = xss) (a1 a2 ar : Option Addr) (c1 c2 cr : Nat) (w : World) (hm : gs.length ≤ 1048576) (hm2 : os.length ≤ 1048576) (hmr : nn ≤ 1048576) (hml : rowsLe rs) (hr : RdC w a1 (gtCells gs)) (hr2 : RdC w a2 (I64 os)) (hri : RdR w ar rs) :
    Calls Try.prog 52 #[.agg #[.slice a1 gs.length c1, .slice a2 os.length c2], .slice ar nn cr] w fun e w' => ∃ ad c, e = .returned (.tuple #[.slice ad (rcOuts gs os xss).length c, .bool (rcB gs os xss)]) ∧ Own w' w.heap.size 3 1 ad (rcOuts gs os xss).length c (I64 (rcOuts gs os xss)) ∧ Below w.heap.size w w' := by
  have HR := Lib.hid hr
  have HR2 := Lib.hid hr2
  have HRI := Lib.hid hri
  have HN := Lib.hid hn
  have HX := Lib.hid hx
  clear hr hr2 hri hn hx
  have hmr' : nn ≤ maxLen := by unfold maxLen; omega
  by_cases h4 : os.length % 4 = 0
  case neg =>
    cases hc : circOk gs os
    ·
      rw [show rcOuts gs os xss = [] by simp [rcOuts, rcB, h4], show rcB gs os xss = false by simp [rcB, h4]]
      have HC := Lib.hid hc
      have t4 : (((os.length : Int) % 4) != 0) = true := by simp; omega
      clear h4 hc
      go_enter Try.func52, Try.ntmps52
      go_wp2_with fail
      refine (iCircuitOk_any gs os _ _ _ _ _ hm hm2 (HR.out.below (by (repeat (first | with_reducible exact Below.refl _ _ | (with_reducible refine bel_next ?_ ?_ (by assumption)) | (with_reducible refine Below.alloc ?_ ?_ _) | (with_reducible refine Below.drew ?_) | (with_reducible refine below_drewN ?_ _) | (with_reducible refine Below.setCell ?_ ?_ _))) <;> (first | omega | (simp; done) | (simp; omega)))) (HR2.out.below (by (repeat (first | with_reducible exact Below.refl _ _ | (with_reducible refine bel_next ?_ ?_ (by assumption)) | (with_reducible refine Below.alloc ?_ ?_ _) | (with_reducible refine Below.drew ?_) | (with_reducible refine below_drewN ?_ _) | (with_reducible refine Below.setCell ?_ ?_ _))) <;> (first | omega | (simp; done) | (simp; omega))))).mono ?_
      rintro e w1 ⟨rfl, hb1⟩
      rw [HC.out]
      have z1 := hb1.size
      (try simp at z1)
      have y1_0 : w.heap.size < w1.heap.size := (by omega)
      have k1_0 := bel_keeps hb1 (b := w.heap.size) (o := 0) (v := .slice a1 gs.length c1) (by first | (go_simp; done) | assumption)
      have k1_1 := bel_keeps hb1 (b := w.heap.size) (o := 1) (v := .slice a2 os.length c2) (by first | (go_simp; done) | assumption)
      go_wp2_with fail
      go_ret2
      exact ⟨none, 0, rfl, Own.nil _ _ _ _, (by (repeat (first | with_reducible exact Below.refl _ _ | (with_reducible refine bel_next ?_ ?_ (by assumption)) | (with_reducible refine Below.alloc ?_ ?_ _) | (with_reducible refine Below.drew ?_) | (with_reducible refine below_drewN ?_ _) | (with_reducible refine Below.setCell ?_ ?_ _))) <;> (first | omega | (simp; done) | (simp; omega)))⟩
    ·
      rw [show rcOuts gs os xss = [] by simp [rcOuts, rcB, h4], show rcB gs os xss = false by simp [rcB, h4]]
      have HC := Lib.hid hc
      have t4 : (((os.length : Int) % 4) != 0) = true := by simp; omega
      clear h4 hc
      go_enter Try.func52, Try.ntmps52
      go_wp2_with fail
      refine (iCircuitOk_any gs os _ _ _ _ _ hm hm2 (HR.out.below (by (repeat (first | with_reducible exact Below.refl _ _ | (with_reducible refine bel_next ?_ ?_ (by assumption)) | (with_reducible refine Below.alloc ?_ ?_ _) | (with_reducible refine Below.drew ?_) | (with_reducible refine below_drewN ?_ _) | (with_reducible refine Below.setCell ?_ ?_ _))) <;> (first | omega | (simp; done) | (simp; omega)))) (HR2.out.below (by (repeat (first | with_reducible exact Below.refl _ _ | (with_reducible refine bel_next ?_ ?_ (by assumption)) | (with_reducible refine Below.alloc ?_ ?_ _) | (with_reducible refine Below.drew ?_) | (with_reducible refine below_drewN ?_ _) | (with_reducible refine Below.setCell ?_ ?_ _))) <;> (first | omega | (simp; done) | (simp; omega))))).mono ?_
      rintro e w1 ⟨rfl, hb1⟩
      rw [HC.out]
      have z1 := hb1.size
      (try simp at z1)
      have y1_0 : w.heap.size < w1.heap.size := (by omega)
      have k1_0 := bel_keeps hb1 (b := w.heap.size) (o := 0) (v := .slice a1 gs.length c1) (by first | (go_simp; done) | assumption)
      have k1_1 := bel_keeps hb1 (b := w.heap.size) (o := 1) (v := .slice a2 os.length c2) (by first | (go_simp; done) | assumption)
      go_wp2_with fail
      go_ret2
      exact ⟨none, 0, rfl, Own.nil _ _ _ _, (by (repeat (first | with_reducible exact Below.refl _ _ | (with_reducible refine bel_next ?_ ?_ (by assumption)) | (with_reducible refine Below.alloc ?_ ?_ _) | (with_reducible refine Below.drew ?_) | (with_reducible refine below_drewN ?_ _) | (with_reducible refine Below.setCell ?_ ?_ _))) <;> (first | omega | (simp; done) | (simp; omega)))⟩
  have t4 : (((os.length : Int) % 4) != 0) = false := by simp; omega
  have HE0 : inputsOk xss = true → evalB gs os (inputBits xss) = circOk gs os := fun h => by unfold evalB; rw [← HX.out] at h ⊢; rw [bitsB_in h]; simp
  have HE0 := Lib.hid HE0
  cases hc : circOk gs os
  · cases hi : inputsOk xss
    ·
      rw [show rcOuts gs os xss = [] by simp [rcOuts, rcB, hc], show rcB gs os xss = false by simp [rcB, hc]]
      have HC := Lib.hid hc
      have HI := Lib.hid hi
      clear h4 hc hi HE0
      go_enter Try.func52, Try.ntmps52
      go_wp2_with fail
      refine (iCircuitOk_any gs os _ _ _ _ _ hm hm2 (HR.out.below (by (repeat (first | with_reducible exact Below.refl _ _ | (with_reducible refine bel_next ?_ ?_ (by assumption)) | (with_reducible refine Below.alloc ?_ ?_ _) | (with_reducible refine Below.drew ?_) | (with_reducible refine below_drewN ?_ _) | (with_reducible refine Below.setCell ?_ ?_ _))) <;> (first | omega | (simp; done) | (simp; omega)))) (HR2.out.below (by (repeat (first | with_reducible exact Below.refl _ _ | (with_reducible refine bel_next ?_ ?_ (by assumption)) | (with_reducible refine Below.alloc ?_ ?_ _) | (with_reducible refine Below.drew ?_) | (with_reducible refine below_drewN ?_ _) | (with_reducible refine Below.setCell ?_ ?_ _))) <;> (first | omega | (simp; done) | (simp; omega))))).mono ?_
      rintro e w1 ⟨rfl, hb1⟩
      rw [HC.out]
      have z1 := hb1.size
      (try simp at z1)
      have y1_0 : w.heap.size < w1.heap.size := (by omega)
      have k1_0 := bel_keeps hb1 (b := w.heap.size) (o := 0) (v := .slice a1 gs.length c1) (by first | (go_simp; done) | assumption)
      have k1_1 := bel_keeps hb1 (b := w.heap.size) (o := 1) (v := .slice a2 os.length c2) (by first | (go_simp; done) | assumption)
      go_wp2_with fail
      go_ret2
      exact ⟨none, 0, rfl, Own.nil _ _ _ _, (by (repeat (first | with_reducible exact Below.refl _ _ | (with_reducible refine bel_next ?_ ?_ (by assumption)) | (with_reducible refine Below.alloc ?_ ?_ _) | (with_reducible refine Below.drew ?_) | (with_reducible refine below_drewN ?_ _) | (with_reducible refine Below.setCell ?_ ?_ _))) <;> (first | omega | (simp; done) | (simp; omega)))⟩
    ·
      rw [show rcOuts gs os xss = [] by simp [rcOuts, rcB, hc], show rcB gs os xss = false by simp [rcB, hc]]
      have HE : Hid (evalB gs os (inputBits xss) = circOk gs os) := HE0.out hi
      rw [hc] at HE
      have HC := Lib.hid hc
      have HI := Lib.hid hi
      clear h4 hc hi HE0
      go_enter Try.func52, Try.ntmps52
      go_wp2_with fail
      refine (iCircuitOk_any gs os _ _ _ _ _ hm hm2 (HR.out.below (by (repeat (first | with_reducible exact Below.refl _ _ | (with_reducible refine bel_next ?_ ?_ (by assumption)) | (with_reducible refine Below.alloc ?_ ?_ _) | (with_reducible refine Below.drew ?_) | (with_reducible refine below_drewN ?_ _) | (with_reducible refine Below.setCell ?_ ?_ _))) <;> (first | omega | (simp; done) | (simp; omega)))) (HR2.out.below (by (repeat (first | with_reducible exact Below.refl _ _ | (with_reducible refine bel_next ?_ ?_ (by assumption)) | (with_reducible refine Below.alloc ?_ ?_ _) | (with_reducible refine Below.drew ?_) | (with_reducible refine below_drewN ?_ _) | (with_reducible refine Below.setCell ?_ ?_ _))) <;> (first | omega | (simp; done) | (simp; omega))))).mono ?_
      rintro e w1 ⟨rfl, hb1⟩
      rw [HC.out]
      have z1 := hb1.size
      (try simp at z1)
      have y1_0 : w.heap.size < w1.heap.size := (by omega)
      have k1_0 := bel_keeps hb1 (b := w.heap.size) (o := 0) (v := .slice a1 gs.length c1) (by first | (go_simp; done) | assumption)
      have k1_1 := bel_keeps hb1 (b := w.heap.size) (o := 1) (v := .slice a2 os.length c2) (by first | (go_simp; done) | assumption)
      go_wp2_with fail
      go_ret2
      exact ⟨none, 0, rfl, Own.nil _ _ _ _, (by (repeat (first | with_reducible exact Below.refl _ _ | (with_reducible refine bel_next ?_ ?_ (by assumption)) | (with_reducible refine Below.alloc ?_ ?_ _) | (with_reducible refine Below.drew ?_) | (with_reducible refine below_drewN ?_ _) | (with_reducible refine Below.setCell ?_ ?_ _))) <;> (first | omega | (simp; done) | (simp; omega)))⟩
  · cases hi : inputsOk xss
    ·
      rw [show rcOuts gs os xss = [] by simp [rcOuts, rcB, hi], show rcB gs os xss = false by simp [rcB, hi]]
      have HC := Lib.hid hc
      have HI := Lib.hid hi
      clear h4 hc hi HE0
      go_enter Try.func52, Try.ntmps52
      go_wp2_with fail
      refine (iCircuitOk_any gs os _ _ _ _ _ hm hm2 (HR.out.below (by (repeat (first | with_reducible exact Below.refl _ _ | (with_reducible refine bel_next ?_ ?_ (by assumption)) | (with_reducible refine Below.alloc ?_ ?_ _) | (with_reducible refine Below.drew ?_) | (with_reducible refine below_drewN ?_ _) | (with_reducible refine Below.setCell ?_ ?_ _))) <;> (first | omega | (simp; done) | (simp; omega)))) (HR2.out.below (by (repeat (first | with_reducible exact Below.refl _ _ | (with_reducible refine bel_next ?_ ?_ (by assumption)) | (with_reducible refine Below.alloc ?_ ?_ _) | (with_reducible refine Below.drew ?_) | (with_reducible refine below_drewN ?_ _) | (with_reducible refine Below.setCell ?_ ?_ _))) <;> (first | omega | (simp; done) | (simp; omega))))).mono ?_
      rintro e w1 ⟨rfl, hb1⟩
      rw [HC.out]
      have z1 := hb1.size
      (try simp at z1)
      have y1_0 : w.heap.size < w1.heap.size := (by omega)
      have k1_0 := bel_keeps hb1 (b := w.heap.size) (o := 0) (v := .slice a1 gs.length c1) (by first | (go_simp; done) | assumption)
      have k1_1 := bel_keeps hb1 (b := w.heap.size) (o := 1) (v := .slice a2 os.length c2) (by first | (go_simp; done) | assumption)
      go_wp2_with fail
      have hcc := iInputsOk_any rs ar cr w1 (by rw [HN.out]; exact hmr') hml (HRI.out.below (by (repeat (first | with_reducible exact Below.refl _ _ | (with_reducible refine bel_next ?_ ?_ (by assumption)) | (with_reducible refine Below.alloc ?_ ?_ _) | (with_reducible refine Below.drew ?_) | (with_reducible refine below_drewN ?_ _) | (with_reducible refine Below.setCell ?_ ?_ _))) <;> (first | omega | (simp; done) | (simp; omega))))
      rw [HN.out, HX.out, HI.out] at hcc
      refine (hcc).mono ?_
      clear hcc
      rintro e _ ⟨rfl, rfl⟩
      go_wp2_with fail
      go_ret2
      exact ⟨none, 0, rfl, Own.nil _ _ _ _, (by (repeat (first | with_reducible exact Below.refl _ _ | (with_reducible refine bel_next ?_ ?_ (by assumption)) | (with_reducible refine Below.alloc ?_ ?_ _) | (with_reducible refine Below.drew ?_) | (with_reducible refine below_drewN ?_ _) | (with_reducible refine Below.setCell ?_ ?_ _))) <;> (first | omega | (simp; done) | (simp; omega)))⟩
    ·
      rw [show rcOuts gs os xss = wordsOf (evalOuts gs os (inputBits xss)) by simp [rcOuts, rcB, hc, hi, h4], show rcB gs os xss = true by simp [rcB, hc, hi, h4]]
      have HE : Hid (evalB gs os (inputBits xss) = circOk gs os) := HE0.out hi
      rw [hc] at HE
      have HC := Lib.hid hc
      have HI := Lib.hid hi
      clear h4 hc hi HE0
      go_enter Try.func52, Try.ntmps52
      go_wp2_with fail
      refine (iCircuitOk_any gs os _ _ _ _ _ hm hm2 (HR.out.below (by (repeat (first | with_reducible exact Below.refl _ _ | (with_reducible refine bel_next ?_ ?_ (by assumption)) | (with_reducible refine Below.alloc ?_ ?_ _) | (with_reducible refine Below.drew ?_) | (with_reducible refine below_drewN ?_ _) | (with_reducible refine Below.setCell ?_ ?_ _))) <;> (first | omega | (simp; done) | (simp; omega)))) (HR2.out.below (by (repeat (first | with_reducible exact Below.refl _ _ | (with_reducible refine bel_next ?_ ?_ (by assumption)) | (with_reducible refine Below.alloc ?_ ?_ _) | (with_reducible refine Below.drew ?_) | (with_reducible refine below_drewN ?_ _) | (with_reducible refine Below.setCell ?_ ?_ _))) <;> (first | omega | (simp; done) | (simp; omega))))).mono ?_
      rintro e w1 ⟨rfl, hb1⟩
      rw [HC.out]
      have z1 := hb1.size
      (try simp at z1)
      have y1_0 : w.heap.size < w1.heap.size := (by omega)
      have k1_0 := bel_keeps hb1 (b := w.heap.size) (o := 0) (v := .slice a1 gs.length c1) (by first | (go_simp; done) | assumption)
      have k1_1 := bel_keeps hb1 (b := w.heap.size) (o := 1) (v := .slice a2 os.length c2) (by first | (go_simp; done) | assumption)
      go_wp2_with fail
      have hcc := iInputsOk_any rs ar cr w1 (by rw [HN.out]; exact hmr') hml (HRI.out.below (by (repeat (first | with_reducible exact Below.refl _ _ | (with_reducible refine bel_next ?_ ?_ (by assumption)) | (with_reducible refine Below.alloc ?_ ?_ _) | (with_reducible refine Below.drew ?_) | (with_reducible refine below_drewN ?_ _) | (with_reducible refine Below.setCell ?_ ?_ _))) <;> (first | omega | (simp; done) | (simp; omega))))
      rw [HN.out, HX.out, HI.out] at hcc
      refine (hcc).mono ?_
      clear hcc
      rintro e _ ⟨rfl, rfl⟩
      go_wp2_with fail
      apply wp_share4 (F := fun (W : World) (ab3 : Option Addr) (cb3 : Nat) (av3 : Option Addr) (cv3 : Nat) => Below w1.heap.size w1 W ∧ Own W w.heap.size 3 1 av3 (evalOuts gs os (inputBits xss)).length cv3 (I64 (evalOuts gs os (inputBits xss))) ∧ True)
      case h1 =>
        go_region_held3 (fun w' => w'.cell? ⟨w.heap.size, 0, none⟩ = some (.slice a1 gs.length c1) ∧ w'.cell? ⟨w.heap.size, 1, none⟩ = some (.slice a2 os.length c2))
          (first | go_keep)
          (first | (go_at_call 85; refine (iInputBits_n rs nn HN.out xss HX.out ar cr _ hmr' hml (HRI.out.below (by (repeat (first | with_reducible exact Below.refl _ _ | (with_reducible refine bel_next ?_ ?_ (by assumption)) | (with_reducible refine Below.alloc ?_ ?_ _) | (with_reducible refine Below.drew ?_) | (with_reducible refine below_drewN ?_ _) | (with_reducible refine Below.setCell ?_ ?_ _))) <;> (first | omega | (simp; done) | (simp; omega))))).mono ?_; rintro e v1 ⟨ab3, cb3, rfl, ob, hv1⟩; have zv1 := hv1.size; (try simp at zv1); have yv1_0 : w.heap.size < v1.heap.size := (by omega); have nv1_0 : w.heap.size ≠ v1.heap.size := (by omega); have mv1_0 : v1.heap.size ≠ w.heap.size := (by omega); have kv1_0 := bel_keeps hv1 (b := w.heap.size) (o := 0) (v := .slice a1 gs.length c1) (by first | (go_simp; done) | assumption); have kv1_1 := bel_keeps hv1 (b := w.heap.size) (o := 1) (v := .slice a2 os.length c2) (by first | (go_simp; done) | assumption)) | (go_at_call 34; refine (iEvalCircuit_any gs os (inputBits xss) _ _ _ _ _ _ _ hm hm2 (inputBits_le _) (HR.out.below (by (repeat (first | with_reducible exact Below.refl _ _ | (with_reducible refine bel_next ?_ ?_ (by assumption)) | (with_reducible refine Below.alloc ?_ ?_ _) | (with_reducible refine Below.drew ?_) | (with_reducible refine below_drewN ?_ _) | (with_reducible refine Below.setCell ?_ ?_ _))) <;> (first | omega | (simp; done) | (simp; omega)))) (HR2.out.below (by (repeat (first | with_reducible exact Below.refl _ _ | (with_reducible refine bel_next ?_ ?_ (by assumption)) | (with_reducible refine Below.alloc ?_ ?_ _) | (with_reducible refine Below.drew ?_) | (with_reducible refine below_drewN ?_ _) | (with_reducible refine Below.setCell ?_ ?_ _))) <;> (first | omega | (simp; done) | (simp; omega)))) (ob.rd.below (by (repeat (first | with_reducible exact Below.refl _ _ | (with_reducible refine bel_next ?_ ?_ (by assumption)) | (with_reducible refine Below.alloc ?_ ?_ _) | (with_reducible refine Below.drew ?_) | (with_reducible refine below_drewN ?_ _) | (with_reducible refine Below.setCell ?_ ?_ _))) <;> (first | omega | (simp; done) | (simp; omega))))).mono ?_; rintro e v2 ⟨av3, cv3, rfl, ov, hv2⟩; have zv2 := hv2.size; (try simp at zv2); rw [HE.out]; have yv2_0 : w.heap.size < v2.heap.size := (by omega); have nv2_0 : w.heap.size ≠ v2.heap.size := (by omega); have mv2_0 : v2.heap.size ≠ w.heap.size := (by omega); have kv2_0 := bel_keeps hv2 (b := w.heap.size) (o := 0) (v := .slice a1 gs.length c1) (by first | (go_simp; done) | assumption); have kv2_1 := bel_keeps hv2 (b := w.heap.size) (o := 1) (v := .slice a2 os.length c2) (by first | (go_simp; done) | assumption)))
        ·
          refine ⟨rfl, ab3, cb3, av3, cv3, ⟨(by (repeat (first | with_reducible exact Below.refl _ _ | (with_reducible refine bel_next ?_ ?_ (by assumption)) | (with_reducible refine Below.alloc ?_ ?_ _) | (with_reducible refine Below.drew ?_) | (with_reducible refine below_drewN ?_ _) | (with_reducible refine Below.setCell ?_ ?_ _))) <;> (first | omega | (simp; done) | (simp; omega))), ov.lo (by omega), trivial⟩, ?_⟩
          generalize v2 = W
          rfl
      rintro w3 ab3 cb3 av3 cv3 ⟨hb3, r3_0, r3_1⟩
      have z3 := hb3.size
      (try simp at z3)
      have y3_0 : w.heap.size < w3.heap.size := (by omega)
      have k3_0 := bel_keeps hb3 (b := w.heap.size) (o := 0) (v := .slice a1 gs.length c1) (by first | (go_simp; done) | assumption)
      have k3_1 := bel_keeps hb3 (b := w.heap.size) (o := 1) (v := .slice a2 os.length c2) (by first | (go_simp; done) | assumption)
      clear k1_0 k1_1
      have ov := r3_0
      go_wp2_with fail
      refine (iWordsOf_any (evalOuts gs os (inputBits xss)) _ _ _ (by have := evalOuts_len gs os (inputBits xss); omega) (ov.rd.below (by (repeat (first | with_reducible exact Below.refl _ _ | (with_reducible refine bel_next ?_ ?_ (by assumption)) | (with_reducible refine Below.alloc ?_ ?_ _) | (with_reducible refine Below.drew ?_) | (with_reducible refine below_drewN ?_ _) | (with_reducible refine Below.setCell ?_ ?_ _))) <;> (first | omega | (simp; done) | (simp; omega))))).mono ?_
      rintro e w4 ⟨aw, cw, rfl, ow, hb4⟩
      have z4 := hb4.size
      (try simp at z4)
      have y4_0 : w.heap.size < w4.heap.size := (by omega)
      have k4_0 := bel_keeps hb4 (b := w.heap.size) (o := 0) (v := .slice a1 gs.length c1) (by first | (go_simp; done) | assumption)
      have k4_1 := bel_keeps hb4 (b := w.heap.size) (o := 1) (v := .slice a2 os.length c2) (by first | (go_simp; done) | assumption)
      clear k3_0 k3_1
      go_wp2_with fail
      go_ret2
      exact ⟨aw, cw, rfl, ow.lo (by omega), (by (repeat (first | with_reducible exact Below.refl _ _ | (with_reducible refine bel_next ?_ ?_ (by assumption)) | (with_reducible refine Below.alloc ?_ ?_ _) | (with_reducible refine Below.drew ?_) | (with_reducible refine below_drewN ?_ _) | (with_reducible refine Below.setCell ?_ ?_ _))) <;> (first | omega | (simp; done) | (simp; omega)))⟩
set_option maxRecDepth 20000 in
set_option maxHeartbeats 4000000 in
theorem sRunCircuit_any (gs : List Gt) (os : List Int) (rs : List Rw) (nn : Nat) (hn : rs.length = nn) (xss : List (List Int)) (hx : rs.map Rw.xs = xss) (a1 a2 ar : Option Addr) (c1 c2 cr : Nat) (w : World) (hm : gs.length ≤ 1048576) (hm2 : os.length ≤ 1048576) (hmr : nn ≤ 1048576) (hml : rowsLe rs) (hr : RdC w a1 (gtCells gs)) (hr2 : RdC w a2 (I64 os)) (hri : RdR w ar rs) :
    Calls Try.prog 50 #[.agg #[.slice a1 gs.length c1, .slice a2 os.length c2], .slice ar nn cr] w fun e w' => ∃ ad c, e = .returned (.tuple #[.slice ad (rcOuts gs os xss).length c, .bool (rcB gs os xss)]) ∧ Own w' w.heap.size 3 1 ad (rcOuts gs os xss).length c (I64 (rcOuts gs os xss)) ∧ Below w.heap.size w w' := by
  have HR := Lib.hid hr
  have HR2 := Lib.hid hr2
  have HRI := Lib.hid hri
  have HN := Lib.hid hn
  have HX := Lib.hid hx
  clear hr hr2 hri hn hx
  have hmr' : nn ≤ maxLen := by unfold maxLen; omega
  by_cases h4 : os.length % 4 = 0
  case neg =>
    rw [show rcOuts gs os xss = [] by simp [rcOuts, rcB, h4], show rcB gs os xss = false by simp [rcB, h4]]
    have t4 : (((os.length : Int) % 4) != 0) = true := by simp; omega
    clear h4
    go_enter Try.func50, Try.ntmps50
    go_wp2_with fail
    go_ret2
    exact ⟨_, _, rfl, (own_last _ 3 1 w.heap.size _ (by simp) (by first | omega | (simp; done) | (simp; omega))), (by (repeat (first | with_reducible exact Below.refl _ _ | (with_reducible refine bel_next ?_ ?_ (by assumption)) | (with_reducible refine Below.alloc ?_ ?_ _) | (with_reducible refine Below.drew ?_) | (with_reducible refine below_drewN ?_ _) | (with_reducible refine Below.setCell ?_ ?_ _))) <;> (first | omega | (simp; done) | (simp; omega)))⟩
  have t4 : (((os.length : Int) % 4) != 0) = false := by simp; omega
  have HE0 : inputsOk xss = true → evalB gs os (inputBits xss) = circOk gs os := fun h => by unfold evalB; rw [← HX.out] at h ⊢; rw [bitsB_in h]; simp
  have HE0 := Lib.hid HE0
  cases hc : circOk gs os
  · cases hi : inputsOk xss
    ·
      rw [show rcOuts gs os xss = [] by simp [rcOuts, rcB, hc], show rcB gs os xss = false by simp [rcB, hc]]
      have HC := Lib.hid hc
      have HI := Lib.hid hi
      clear h4 hc hi HE0
      go_enter Try.func50, Try.ntmps50
      go_wp2_with fail
      obtain ⟨w1, hw1⟩ : ∃ W, W = w.alloc (.cells #[.slice a1 gs.length c1, .slice a2 os.length c2] 30) := ⟨_, rfl⟩
      rw [← hw1]
      have hb1 : Below w.heap.size w w1 := by rw [hw1]; exact (Below.refl _ _).alloc (Nat.le_refl _) _
      have x1 : w.heap.size < w1.heap.size := by rw [hw1]; simp
      have z1 := hb1.size
      have k1_0 : w1.cell? ⟨w.heap.size, 0, none⟩ = some (.slice a1 gs.length c1) := by rw [hw1]; go_simp
      have k1_1 : w1.cell? ⟨w.heap.size, 1, none⟩ = some (.slice a2 os.length c2) := by rw [hw1]; go_simp
      clear hw1
      go_wp2_with fail
      have hcc := sInputsOk_any rs ar cr w1 (by rw [HN.out]; exact hmr') hml (HRI.out.below (by (repeat (first | with_reducible exact Below.refl _ _ | (with_reducible refine bel_next ?_ ?_ (by assumption)) | (with_reducible refine Below.alloc ?_ ?_ _) | (with_reducible refine Below.drew ?_) | (with_reducible refine below_drewN ?_ _) | (with_reducible refine Below.setCell ?_ ?_ _))) <;> (first | omega | (simp; done) | (simp; omega))))
      rw [HN.out, HX.out, HI.out] at hcc
      refine (hcc).mono ?_
      clear hcc
      rintro e _ ⟨rfl, rfl⟩
      go_wp2_with fail
      go_ret2
      exact ⟨_, _, rfl, (own_last _ 3 1 w.heap.size _ (by simp) (by first | omega | (simp; done) | (simp; omega))), (by (repeat (first | with_reducible exact Below.refl _ _ | (with_reducible refine bel_next ?_ ?_ (by assumption)) | (with_reducible refine Below.alloc ?_ ?_ _) | (with_reducible refine Below.drew ?_) | (with_reducible refine below_drewN ?_ _) | (with_reducible refine Below.setCell ?_ ?_ _))) <;> (first | omega | (simp; done) | (simp; omega)))⟩
    ·
      rw [show rcOuts gs os xss = [] by simp [rcOuts, rcB, hc], show rcB gs os xss = false by simp [rcB, hc]]
      have HE : Hid (evalB gs os (inputBits xss) = circOk gs os) := HE0.out hi
      rw [hc] at HE
      have HC := Lib.hid hc
      have HI := Lib.hid hi
      clear h4 hc hi HE0
      go_enter Try.func50, Try.ntmps50
      go_wp2_with fail
      obtain ⟨w1, hw1⟩ : ∃ W, W = w.alloc (.cells #[.slice a1 gs.length c1, .slice a2 os.length c2] 30) := ⟨_, rfl⟩
      rw [← hw1]
      have hb1 : Below w.heap.size w w1 := by rw [hw1]; exact (Below.refl _ _).alloc (Nat.le_refl _) _
      have x1 : w.heap.size < w1.heap.size := by rw [hw1]; simp
      have z1 := hb1.size
      have k1_0 : w1.cell? ⟨w.heap.size, 0, none⟩ = some (.slice a1 gs.length c1) := by rw [hw1]; go_simp
      have k1_1 : w1.cell? ⟨w.heap.size, 1, none⟩ = some (.slice a2 os.length c2) := by rw [hw1]; go_simp
      clear hw1
      go_wp2_with fail
      have hcc := sInputsOk_any rs ar cr w1 (by rw [HN.out]; exact hmr') hml (HRI.out.below (by (repeat (first | with_reducible exact Below.refl _ _ | (with_reducible refine bel_next ?_ ?_ (by assumption)) | (with_reducible refine Below.alloc ?_ ?_ _) | (with_reducible refine Below.drew ?_) | (with_reducible refine below_drewN ?_ _) | (with_reducible refine Below.setCell ?_ ?_ _))) <;> (first | omega | (simp; done) | (simp; omega))))
      rw [HN.out, HX.out, HI.out] at hcc
      refine (hcc).mono ?_
      clear hcc
      rintro e _ ⟨rfl, rfl⟩
      go_wp2_with fail
      apply wp_share4 (F := fun (W : World) (ab3 : Option Addr) (cb3 : Nat) (av3 : Option Addr) (cv3 : Nat) => Below w1.heap.size w1 W ∧ Own W w.heap.size 3 1 av3 (evalOuts gs os (inputBits xss)).length cv3 (I64 (evalOuts gs os (inputBits xss))) ∧ True)
      case h1 =>
        go_region_held3 (fun w' => w'.cell? ⟨w.heap.size, 0, none⟩ = some (.slice a1 gs.length c1) ∧ w'.cell? ⟨w.heap.size, 1, none⟩ = some (.slice a2 os.length c2))
          (first | go_keep)
          (first | (go_at_call 82; refine (sInputBits_n rs nn HN.out xss HX.out ar cr _ hmr' hml (HRI.out.below (by (repeat (first | with_reducible exact Below.refl _ _ | (with_reducible refine bel_next ?_ ?_ (by assumption)) | (with_reducible refine Below.alloc ?_ ?_ _) | (with_reducible refine Below.drew ?_) | (with_reducible refine below_drewN ?_ _) | (with_reducible refine Below.setCell ?_ ?_ _))) <;> (first | omega | (simp; done) | (simp; omega))))).mono ?_; rintro e v1 ⟨ab3, cb3, rfl, ob, hv1⟩; have zv1 := hv1.size; (try simp at zv1); have yv1_0 : w.heap.size < v1.heap.size := (by omega); have nv1_0 : w.heap.size ≠ v1.heap.size := (by omega); have mv1_0 : v1.heap.size ≠ w.heap.size := (by omega); have kv1_0 := bel_keeps hv1 (b := w.heap.size) (o := 0) (v := .slice a1 gs.length c1) (by first | (go_simp; done) | assumption); have kv1_1 := bel_keeps hv1 (b := w.heap.size) (o := 1) (v := .slice a2 os.length c2) (by first | (go_simp; done) | assumption)) | (go_at_call 33; refine (sEvalCircuit_any gs os (inputBits xss) _ _ _ _ _ _ _ hm hm2 (inputBits_le _) (HR.out.below (by (repeat (first | with_reducible exact Below.refl _ _ | (with_reducible refine bel_next ?_ ?_ (by assumption)) | (with_reducible refine Below.alloc ?_ ?_ _) | (with_reducible refine Below.drew ?_) | (with_reducible refine below_drewN ?_ _) | (with_reducible refine Below.setCell ?_ ?_ _))) <;> (first | omega | (simp; done) | (simp; omega)))) (HR2.out.below (by (repeat (first | with_reducible exact Below.refl _ _ | (with_reducible refine bel_next ?_ ?_ (by assumption)) | (with_reducible refine Below.alloc ?_ ?_ _) | (with_reducible refine Below.drew ?_) | (with_reducible refine below_drewN ?_ _) | (with_reducible refine Below.setCell ?_ ?_ _))) <;> (first | omega | (simp; done) | (simp; omega)))) (ob.rd.below (by (repeat (first | with_reducible exact Below.refl _ _ | (with_reducible refine bel_next ?_ ?_ (by assumption)) | (with_reducible refine Below.alloc ?_ ?_ _) | (with_reducible refine Below.drew ?_) | (with_reducible refine below_drewN ?_ _) | (with_reducible refine Below.setCell ?_ ?_ _))) <;> (first | omega | (simp; done) | (simp; omega))))).mono ?_; rintro e v2 ⟨av3, cv3, rfl, ov, hv2⟩; have zv2 := hv2.size; (try simp at zv2); rw [HE.out]; have yv2_0 : w.heap.size < v2.heap.size := (by omega); have nv2_0 : w.heap.size ≠ v2.heap.size := (by omega); have mv2_0 : v2.heap.size ≠ w.heap.size := (by omega); have kv2_0 := bel_keeps hv2 (b := w.heap.size) (o := 0) (v := .slice a1 gs.length c1) (by first | (go_simp; done) | assumption); have kv2_1 := bel_keeps hv2 (b := w.heap.size) (o := 1) (v := .slice a2 os.length c2) (by first | (go_simp; done) | assumption)))
        ·
          refine ⟨rfl, ab3, cb3, av3, cv3, ⟨(by (repeat (first | with_reducible exact Below.refl _ _ | (with_reducible refine bel_next ?_ ?_ (by assumption)) | (with_reducible refine Below.alloc ?_ ?_ _) | (with_reducible refine Below.drew ?_) | (with_reducible refine below_drewN ?_ _) | (with_reducible refine Below.setCell ?_ ?_ _))) <;> (first | omega | (simp; done) | (simp; omega))), ov.lo (by omega), trivial⟩, ?_⟩
          generalize v2 = W
          rfl
      rintro w3 ab3 cb3 av3 cv3 ⟨hb3, r3_0, r3_1⟩
      have z3 := hb3.size
      (try simp at z3)
      have y3_0 : w.heap.size < w3.heap.size := (by omega)
      have k3_0 := bel_keeps hb3 (b := w.heap.size) (o := 0) (v := .slice a1 gs.length c1) (by first | (go_simp; done) | assumption)
      have k3_1 := bel_keeps hb3 (b := w.heap.size) (o := 1) (v := .slice a2 os.length c2) (by first | (go_simp; done) | assumption)
      clear k1_0 k1_1
      have ov := r3_0
      go_wp2_with fail
      go_ret2
      exact ⟨_, _, rfl, (own_last _ 3 1 w.heap.size _ (by simp) (by first | omega | (simp; done) | (simp; omega))), (by (repeat (first | with_reducible exact Below.refl _ _ | (with_reducible refine bel_next ?_ ?_ (by assumption)) | (with_reducible refine Below.alloc ?_ ?_ _) | (with_reducible refine Below.drew ?_) | (with_reducible refine below_drewN ?_ _) | (with_reducible refine Below.setCell ?_ ?_ _))) <;> (first | omega | (simp; done) | (simp; omega)))⟩
  · cases hi : inputsOk xss
    ·
      rw [show rcOuts gs os xss = [] by simp [rcOuts, rcB, hi], show rcB gs os xss = false by simp [rcB, hi]]
      have HC := Lib.hid hc
      have HI := Lib.hid hi
      clear h4 hc hi HE0
      go_enter Try.func50, Try.ntmps50
      go_wp2_with fail
      obtain ⟨w1, hw1⟩ : ∃ W, W = w.alloc (.cells #[.slice a1 gs.length c1, .slice a2 os.length c2] 30) := ⟨_, rfl⟩
      rw [← hw1]
      have hb1 : Below w.heap.size w w1 := by rw [hw1]; exact (Below.refl _ _).alloc (Nat.le_refl _) _
      have x1 : w.heap.size < w1.heap.size := by rw [hw1]; simp
      have z1 := hb1.size
      have k1_0 : w1.cell? ⟨w.heap.size, 0, none⟩ = some (.slice a1 gs.length c1) := by rw [hw1]; go_simp
      have k1_1 : w1.cell? ⟨w.heap.size, 1, none⟩ = some (.slice a2 os.length c2) := by rw [hw1]; go_simp
      clear hw1
      go_wp2_with fail
      have hcc := sInputsOk_any rs ar cr w1 (by rw [HN.out]; exact hmr') hml (HRI.out.below (by (repeat (first | with_reducible exact Below.refl _ _ | (with_reducible refine bel_next ?_ ?_ (by assumption)) | (with_reducible refine Below.alloc ?_ ?_ _) | (with_reducible refine Below.drew ?_) | (with_reducible refine below_drewN ?_ _) | (with_reducible refine Below.setCell ?_ ?_ _))) <;> (first | omega | (simp; done) | (simp; omega))))
      rw [HN.out, HX.out, HI.out] at hcc
      refine (hcc).mono ?_
      clear hcc
      rintro e _ ⟨rfl, rfl⟩
      go_wp2_with fail
      go_ret2
      exact ⟨_, _, rfl, (own_last _ 3 1 w.heap.size _ (by simp) (by first | omega | (simp; done) | (simp; omega))), (by (repeat (first | with_reducible exact Below.refl _ _ | (with_reducible refine bel_next ?_ ?_ (by assumption)) | (with_reducible refine Below.alloc ?_ ?_ _) | (with_reducible refine Below.drew ?_) | (with_reducible refine below_drewN ?_ _) | (with_reducible refine Below.setCell ?_ ?_ _))) <;> (first | omega | (simp; done) | (simp; omega)))⟩
    ·
      rw [show rcOuts gs os xss = wordsOf (evalOuts gs os (inputBits xss)) by simp [rcOuts, rcB, hc, hi, h4], show rcB gs os xss = true by simp [rcB, hc, hi, h4]]
      have HE : Hid (evalB gs os (inputBits xss) = circOk gs os) := HE0.out hi
      rw [hc] at HE
      have HC := Lib.hid hc
      have HI := Lib.hid hi
      clear h4 hc hi HE0
      go_enter Try.func50, Try.ntmps50
      go_wp2_with fail
      obtain ⟨w1, hw1⟩ : ∃ W, W = w.alloc (.cells #[.slice a1 gs.length c1, .slice a2 os.length c2] 30) := ⟨_, rfl⟩
      rw [← hw1]
      have hb1 : Below w.heap.size w w1 := by rw [hw1]; exact (Below.refl _ _).alloc (Nat.le_refl _) _
      have x1 : w.heap.size < w1.heap.size := by rw [hw1]; simp
      have z1 := hb1.size
      have k1_0 : w1.cell? ⟨w.heap.size, 0, none⟩ = some (.slice a1 gs.length c1) := by rw [hw1]; go_simp
      have k1_1 : w1.cell? ⟨w.heap.size, 1, none⟩ = some (.slice a2 os.length c2) := by rw [hw1]; go_simp
      clear hw1
      go_wp2_with fail
      have hcc := sInputsOk_any rs ar cr w1 (by rw [HN.out]; exact hmr') hml (HRI.out.below (by (repeat (first | with_reducible exact Below.refl _ _ | (with_reducible refine bel_next ?_ ?_ (by assumption)) | (with_reducible refine Below.alloc ?_ ?_ _) | (with_reducible refine Below.drew ?_) | (with_reducible refine below_drewN ?_ _) | (with_reducible refine Below.setCell ?_ ?_ _))) <;> (first | omega | (simp; done) | (simp; omega))))
      rw [HN.out, HX.out, HI.out] at hcc
      refine (hcc).mono ?_
      clear hcc
      rintro e _ ⟨rfl, rfl⟩
      go_wp2_with fail
      apply wp_share4 (F := fun (W : World) (ab3 : Option Addr) (cb3 : Nat) (av3 : Option Addr) (cv3 : Nat) => Below w1.heap.size w1 W ∧ Own W w.heap.size 3 1 av3 (evalOuts gs os (inputBits xss)).length cv3 (I64 (evalOuts gs os (inputBits xss))) ∧ True)
      case h1 =>
        go_region_held3 (fun w' => w'.cell? ⟨w.heap.size, 0, none⟩ = some (.slice a1 gs.length c1) ∧ w'.cell? ⟨w.heap.size, 1, none⟩ = some (.slice a2 os.length c2))
          (first | go_keep)
          (first | (go_at_call 82; refine (sInputBits_n rs nn HN.out xss HX.out ar cr _ hmr' hml (HRI.out.below (by (repeat (first | with_reducible exact Below.refl _ _ | (with_reducible refine bel_next ?_ ?_ (by assumption)) | (with_reducible refine Below.alloc ?_ ?_ _) | (with_reducible refine Below.drew ?_) | (with_reducible refine below_drewN ?_ _) | (with_reducible refine Below.setCell ?_ ?_ _))) <;> (first | omega | (simp; done) | (simp; omega))))).mono ?_; rintro e v1 ⟨ab3, cb3, rfl, ob, hv1⟩; have zv1 := hv1.size; (try simp at zv1); have yv1_0 : w.heap.size < v1.heap.size := (by omega); have nv1_0 : w.heap.size ≠ v1.heap.size := (by omega); have mv1_0 : v1.heap.size ≠ w.heap.size := (by omega); have kv1_0 := bel_keeps hv1 (b := w.heap.size) (o := 0) (v := .slice a1 gs.length c1) (by first | (go_simp; done) | assumption); have kv1_1 := bel_keeps hv1 (b := w.heap.size) (o := 1) (v := .slice a2 os.length c2) (by first | (go_simp; done) | assumption)) | (go_at_call 33; refine (sEvalCircuit_any gs os (inputBits xss) _ _ _ _ _ _ _ hm hm2 (inputBits_le _) (HR.out.below (by (repeat (first | with_reducible exact Below.refl _ _ | (with_reducible refine bel_next ?_ ?_ (by assumption)) | (with_reducible refine Below.alloc ?_ ?_ _) | (with_reducible refine Below.drew ?_) | (with_reducible refine below_drewN ?_ _) | (with_reducible refine Below.setCell ?_ ?_ _))) <;> (first | omega | (simp; done) | (simp; omega)))) (HR2.out.below (by (repeat (first | with_reducible exact Below.refl _ _ | (with_reducible refine bel_next ?_ ?_ (by assumption)) | (with_reducible refine Below.alloc ?_ ?_ _) | (with_reducible refine Below.drew ?_) | (with_reducible refine below_drewN ?_ _) | (with_reducible refine Below.setCell ?_ ?_ _))) <;> (first | omega | (simp; done) | (simp; omega)))) (ob.rd.below (by (repeat (first | with_reducible exact Below.refl _ _ | (with_reducible refine bel_next ?_ ?_ (by assumption)) | (with_reducible refine Below.alloc ?_ ?_ _) | (with_reducible refine Below.drew ?_) | (with_reducible refine below_drewN ?_ _) | (with_reducible refine Below.setCell ?_ ?_ _))) <;> (first | omega | (simp; done) | (simp; omega))))).mono ?_; rintro e v2 ⟨av3, cv3, rfl, ov, hv2⟩; have zv2 := hv2.size; (try simp at zv2); rw [HE.out]; have yv2_0 : w.heap.size < v2.heap.size := (by omega); have nv2_0 : w.heap.size ≠ v2.heap.size := (by omega); have mv2_0 : v2.heap.size ≠ w.heap.size := (by omega); have kv2_0 := bel_keeps hv2 (b := w.heap.size) (o := 0) (v := .slice a1 gs.length c1) (by first | (go_simp; done) | assumption); have kv2_1 := bel_keeps hv2 (b := w.heap.size) (o := 1) (v := .slice a2 os.length c2) (by first | (go_simp; done) | assumption)))
        ·
          refine ⟨rfl, ab3, cb3, av3, cv3, ⟨(by (repeat (first | with_reducible exact Below.refl _ _ | (with_reducible refine bel_next ?_ ?_ (by assumption)) | (with_reducible refine Below.alloc ?_ ?_ _) | (with_reducible refine Below.drew ?_) | (with_reducible refine below_drewN ?_ _) | (with_reducible refine Below.setCell ?_ ?_ _))) <;> (first | omega | (simp; done) | (simp; omega))), ov.lo (by omega), trivial⟩, ?_⟩
          generalize v2 = W
          rfl
      rintro w3 ab3 cb3 av3 cv3 ⟨hb3, r3_0, r3_1⟩
      have z3 := hb3.size
      (try simp at z3)
      have y3_0 : w.heap.size < w3.heap.size := (by omega)
      have k3_0 := bel_keeps hb3 (b := w.heap.size) (o := 0) (v := .slice a1 gs.length c1) (by first | (go_simp; done) | assumption)
      have k3_1 := bel_keeps hb3 (b := w.heap.size) (o := 1) (v := .slice a2 os.length c2) (by first | (go_simp; done) | assumption)
      clear k1_0 k1_1
      have ov := r3_0
      go_wp2_with fail
      refine (sWordsOf_any (evalOuts gs os (inputBits xss)) _ _ _ (by have := evalOuts_len gs os (inputBits xss); omega) (ov.rd.below (by (repeat (first | with_reducible exact Below.refl _ _ | (with_reducible refine bel_next ?_ ?_ (by assumption)) | (with_reducible refine Below.alloc ?_ ?_ _) | (with_reducible refine Below.drew ?_) | (with_reducible refine below_drewN ?_ _) | (with_reducible refine Below.setCell ?_ ?_ _))) <;> (first | omega | (simp; done) | (simp; omega))))).mono ?_
      rintro e w4 ⟨aw, cw, rfl, ow, hb4⟩
      have z4 := hb4.size
      (try simp at z4)
      have y4_0 : w.heap.size < w4.heap.size := (by omega)
      have k4_0 := bel_keeps hb4 (b := w.heap.size) (o := 0) (v := .slice a1 gs.length c1) (by first | (go_simp; done) | assumption)
      have k4_1 := bel_keeps hb4 (b := w.heap.size) (o := 1) (v := .slice a2 os.length c2) (by first | (go_simp; done) | assumption)
      clear k3_0 k3_1
      go_wp2_with fail
      go_ret2
      exact ⟨aw, cw, rfl, ow.lo (by omega), (by (repeat (first | with_reducible exact Below.refl _ _ | (with_reducible refine bel_next ?_ ?_ (by assumption)) | (with_reducible refine Below.alloc ?_ ?_ _) | (with_reducible refine Below.drew ?_) | (with_reducible refine below_drewN ?_ _) | (with_reducible refine Below.setCell ?_ ?_ _))) <;> (first | omega | (simp; done) | (simp; omega)))⟩
end Go.Proofs.Ytfpblgbokmpmjaa

/- EvalWires, EvalCircuit, both. -/
import Derived.Test.YtfpblgbokmpmjaaCircOk
import Derived.Test.YtfpblgbokmpmjaaEvP
import Derived.Test.YtfpblgbokmpmjaaApp
import Derived.Test.YtfpblgbokmpmjaaScal
namespace Go.Proofs.Ytfpblgbokmpmjaa
open Go.RowKit
set_option linter.unusedVariables false
set_option linter.unusedSimpArgs false

theorem Own.int {w : World} {lo e g n cap : Nat} {ws : List Int} (h : Own w lo e 1 (some ⟨g, 0, none⟩) n cap (I64 ws)) (j : Nat) (hj : j < ws.length) : w.cell? ⟨g, j, none⟩ = some (.int .i64 (at0 ws j)) := by
  rw [(h.get j (by simpa using hj)).1, I64_get ws j hj, at0_nat]
  simp [List.getD, List.getElem?_eq_getElem hj]
theorem RdC.int {w : World} {ad : Option Addr} {xs : List Int} (h : RdC w ad (I64 xs)) (j : Nat) (hj : j < xs.length) : ∃ b off, ad = some ⟨b, off, none⟩ ∧ b < w.heap.size ∧ w.cell? ⟨b, off + j, none⟩ = some (.int .i64 (at0 xs j)) := by
  obtain ⟨b, off, h1, h2⟩ := h.at j hj
  refine ⟨b, off, h1, lt_of_cell (h2 j hj), ?_⟩
  rw [h2 j hj, at0_nat]
  simp [List.getD, List.getElem?_eq_getElem hj]
theorem evalB_circ {gs : List Gt} {os bs : List Int} (h : circOk gs os = false) : evalB gs os bs = false := by simp [evalB, h]
theorem evalB_bits {gs : List Gt} {os bs : List Int} (h : bitsB bs = false) : evalB gs os bs = false := by simp [evalB, h]
theorem bitsB_spec (bs : List Int) : (allB bs 0 1 && ((bs.length : Int) == 80)) = bitsB bs := by
  unfold bitsB; rw [Bool.and_comm]; congr 1
  by_cases h : bs.length = 80 <;> simp [h] <;> omega

set_option maxRecDepth 20000 in
set_option maxHeartbeats 4000000 in
theorem sEvalWires_any (gs : List Gt) (os bs : List Int) (a1 a2 ab : Option Addr) (c1 c2 cb : Nat) (w : World) (hm : gs.length ≤ 1048576) (hm2 : os.length ≤ 1048576) (hmb : bs.length ≤ 1048576) (hr : RdC w a1 (gtCells gs)) (hr2 : RdC w a2 (I64 os)) (hrb : RdC w ab (I64 bs)) :
    Calls Try.prog 26 #[.agg #[.slice a1 gs.length c1, .slice a2 os.length c2], .slice ab bs.length cb] w fun e w' => ∃ ad c, e = .returned (.slice ad (evalWires gs os bs).length c) ∧ Own w' w.heap.size 3 1 ad (evalWires gs os bs).length c (I64 (evalWires gs os bs)) ∧ Below w.heap.size w w' := by
  have HR := Lib.hid hr
  have HR2 := Lib.hid hr2
  have HB := Lib.hid hrb
  clear hr hr2 hrb
  cases hc : circOk gs os
  · have HC := Lib.hid hc
    rw [show evalWires gs os bs = [] by simp [evalWires, evalOuts, evalB_circ hc]]
    
    clear hc
    go_enter Try.func26, Try.ntmps26
    go_wp2_with (go_at_call 22; refine (sCircuitOk_any gs os _ _ _ _ _ hm hm2 (HR.out.below (by (repeat (first | with_reducible exact Below.refl _ _ | (with_reducible refine bel_next ?_ ?_ (by assumption)) | (with_reducible refine Below.alloc ?_ ?_ _) | (with_reducible refine Below.drew ?_) | (with_reducible refine below_drewN ?_ _) | (with_reducible refine Below.setCell ?_ ?_ _))) <;> (first | omega | (simp; done) | (simp; omega)))) (HR2.out.below (by (repeat (first | with_reducible exact Below.refl _ _ | (with_reducible refine bel_next ?_ ?_ (by assumption)) | (with_reducible refine Below.alloc ?_ ?_ _) | (with_reducible refine Below.drew ?_) | (with_reducible refine below_drewN ?_ _) | (with_reducible refine Below.setCell ?_ ?_ _))) <;> (first | omega | (simp; done) | (simp; omega))))).mono ?_; rintro e w1 ⟨rfl, hb1⟩; rw [HC.out]; have z1 := hb1.size; (try simp at z1); have y1 : w.heap.size < w1.heap.size := (by omega); have k1_0 := bel_keeps hb1 (b := w.heap.size) (o := 0) (v := .slice a1 gs.length c1) (by go_simp); have k1_1 := bel_keeps hb1 (b := w.heap.size) (o := 1) (v := .slice a2 os.length c2) (by go_simp))
    go_ret
    exact ⟨some ⟨w.heap.size + 1, 0, none⟩, 0, rfl, (own_last (w.alloc (.cells #[.slice a1 gs.length c1, .slice a2 os.length c2] 30)) 3 1 w.heap.size (w.heap.size + 1) (by simp) (by omega)).later (by (repeat (first | with_reducible exact Kp.refl _ _ | (with_reducible refine Kp.rng ?_ (by assumption) ?_) | (with_reducible refine Kp.below ?_ (by assumption)) | (with_reducible refine Kp.grown ?_ (by assumption) ?_) | (with_reducible refine Kp.alloc ?_ _) | (with_reducible refine Kp.drew ?_) | (with_reducible refine Kp.drewN ?_ _) | (with_reducible refine Kp.setCell ?_ _ ?_))) <;> (first | omega | (simp; done) | (simp; omega))), (by (repeat (first | with_reducible exact Below.refl _ _ | (with_reducible refine bel_next ?_ ?_ (by assumption)) | (with_reducible refine Below.alloc ?_ ?_ _) | (with_reducible refine Below.drew ?_) | (with_reducible refine below_drewN ?_ _) | (with_reducible refine Below.setCell ?_ ?_ _))) <;> (first | omega | (simp; done) | (simp; omega)))⟩
  have HC := Lib.hid hc
  cases ht : bitsB bs
  · have HT := Lib.hid ht
    rw [show evalWires gs os bs = [] by simp [evalWires, evalOuts, evalB_bits ht]]
    
    clear hc ht
    go_enter Try.func26, Try.ntmps26
    go_wp2_with (first | (go_at_call 22; refine (sCircuitOk_any gs os _ _ _ _ _ hm hm2 (HR.out.below (by (repeat (first | with_reducible exact Below.refl _ _ | (with_reducible refine bel_next ?_ ?_ (by assumption)) | (with_reducible refine Below.alloc ?_ ?_ _) | (with_reducible refine Below.drew ?_) | (with_reducible refine below_drewN ?_ _) | (with_reducible refine Below.setCell ?_ ?_ _))) <;> (first | omega | (simp; done) | (simp; omega)))) (HR2.out.below (by (repeat (first | with_reducible exact Below.refl _ _ | (with_reducible refine bel_next ?_ ?_ (by assumption)) | (with_reducible refine Below.alloc ?_ ?_ _) | (with_reducible refine Below.drew ?_) | (with_reducible refine below_drewN ?_ _) | (with_reducible refine Below.setCell ?_ ?_ _))) <;> (first | omega | (simp; done) | (simp; omega))))).mono ?_; rintro e w1 ⟨rfl, hb1⟩; rw [HC.out]; have z1 := hb1.size; (try simp at z1); have y1 : w.heap.size < w1.heap.size := (by omega); have k1_0 := bel_keeps hb1 (b := w.heap.size) (o := 0) (v := .slice a1 gs.length c1) (by go_simp); have k1_1 := bel_keeps hb1 (b := w.heap.size) (o := 1) (v := .slice a2 os.length c2) (by go_simp)) | (go_at_call 62; refine (l13Bits_any bs _ _ _ _ (by unfold maxLen; omega) (HB.out.below (by (repeat (first | with_reducible exact Below.refl _ _ | (with_reducible refine bel_next ?_ ?_ (by assumption)) | (with_reducible refine Below.alloc ?_ ?_ _) | (with_reducible refine Below.drew ?_) | (with_reducible refine below_drewN ?_ _) | (with_reducible refine Below.setCell ?_ ?_ _))) <;> (first | omega | (simp; done) | (simp; omega))))).mono ?_; rintro e _ ⟨rfl, rfl⟩; rw [bitsB_spec, HT.out]))
    go_ret
    exact ⟨some ⟨w.heap.size + 1, 0, none⟩, 0, rfl, (own_last (w.alloc (.cells #[.slice a1 gs.length c1, .slice a2 os.length c2] 30)) 3 1 w.heap.size (w.heap.size + 1) (by simp) (by omega)).later (by (repeat (first | with_reducible exact Kp.refl _ _ | (with_reducible refine Kp.rng ?_ (by assumption) ?_) | (with_reducible refine Kp.below ?_ (by assumption)) | (with_reducible refine Kp.grown ?_ (by assumption) ?_) | (with_reducible refine Kp.alloc ?_ _) | (with_reducible refine Kp.drew ?_) | (with_reducible refine Kp.drewN ?_ _) | (with_reducible refine Kp.setCell ?_ _ ?_))) <;> (first | omega | (simp; done) | (simp; omega))), (by (repeat (first | with_reducible exact Below.refl _ _ | (with_reducible refine bel_next ?_ ?_ (by assumption)) | (with_reducible refine Below.alloc ?_ ?_ _) | (with_reducible refine Below.drew ?_) | (with_reducible refine below_drewN ?_ _) | (with_reducible refine Below.setCell ?_ ?_ _))) <;> (first | omega | (simp; done) | (simp; omega)))⟩
  have HT := Lib.hid ht
  have hpp := ht
  simp only [bitsB, Bool.and_eq_true, decide_eq_true_eq] at hpp
  obtain ⟨h80, hall⟩ := hpp
  have hev : evalB gs os bs = true := by simp [evalB, hc, ht]
  obtain ⟨hok, hob, h6⟩ := circ_parts hc
  have H80 := Lib.hid h80
  have HL := Lib.hid hall
  have HOK := Lib.hid hok
  have HOB := Lib.hid hob
  have HF : Hid (evalWires gs os bs = evalW bs gs) := by show _ = _; simp [evalWires, hev]
  rw [HF.out]
  clear hc ht hev h80 hall hok hob HF
  go_enter Try.func26, Try.ntmps26
  go_wp2_with (first | (go_at_call 22; refine (sCircuitOk_any gs os _ _ _ _ _ hm hm2 (HR.out.below (by (repeat (first | with_reducible exact Below.refl _ _ | (with_reducible refine bel_next ?_ ?_ (by assumption)) | (with_reducible refine Below.alloc ?_ ?_ _) | (with_reducible refine Below.drew ?_) | (with_reducible refine below_drewN ?_ _) | (with_reducible refine Below.setCell ?_ ?_ _))) <;> (first | omega | (simp; done) | (simp; omega)))) (HR2.out.below (by (repeat (first | with_reducible exact Below.refl _ _ | (with_reducible refine bel_next ?_ ?_ (by assumption)) | (with_reducible refine Below.alloc ?_ ?_ _) | (with_reducible refine Below.drew ?_) | (with_reducible refine below_drewN ?_ _) | (with_reducible refine Below.setCell ?_ ?_ _))) <;> (first | omega | (simp; done) | (simp; omega))))).mono ?_; rintro e w1 ⟨rfl, hb1⟩; rw [HC.out]; have z1 := hb1.size; (try simp at z1); have y1 : w.heap.size < w1.heap.size := (by omega); have k1_0 := bel_keeps hb1 (b := w.heap.size) (o := 0) (v := .slice a1 gs.length c1) (by go_simp); have k1_1 := bel_keeps hb1 (b := w.heap.size) (o := 1) (v := .slice a2 os.length c2) (by go_simp)) | (go_at_call 62; refine (l13Bits_any bs _ _ _ _ (by unfold maxLen; omega) (HB.out.below (by (repeat (first | with_reducible exact Below.refl _ _ | (with_reducible refine bel_next ?_ ?_ (by assumption)) | (with_reducible refine Below.alloc ?_ ?_ _) | (with_reducible refine Below.drew ?_) | (with_reducible refine below_drewN ?_ _) | (with_reducible refine Below.setCell ?_ ?_ _))) <;> (first | omega | (simp; done) | (simp; omega))))).mono ?_; rintro e _ ⟨rfl, rfl⟩; rw [bitsB_spec, HT.out]))
  go_loopw [5, 6] (fun v i wr => ∃ k g cp : Nat, k ≤ gs.length ∧ i = .int .i64 k ∧ v = .slice (some ⟨g, 0, none⟩) k cp ∧ Own wr (w.heap.size + 1) 3 1 (some ⟨g, 0, none⟩) k cp (I64 (evalW bs (gs.take k))) ∧ wr.cell? ⟨w.heap.size, 0, none⟩ = some (.slice a1 gs.length c1) ∧ Below w.heap.size w wr) (fun _ i _ => gs.length - (intOf i).toNat)
  case atStart => exact ⟨0, w.heap.size + 1, 0, Nat.zero_le _, rfl, rfl, (own_last (w.alloc (.cells #[.slice a1 gs.length c1, .slice a2 os.length c2] 30)) 3 1 (w.heap.size + 1) (w.heap.size + 1) (by simp) (Nat.le_refl _)).later (by (repeat (first | with_reducible exact Kp.refl _ _ | (with_reducible refine Kp.rng ?_ (by assumption) ?_) | (with_reducible refine Kp.below ?_ (by assumption)) | (with_reducible refine Kp.grown ?_ (by assumption) ?_) | (with_reducible refine Kp.alloc ?_ _) | (with_reducible refine Kp.drew ?_) | (with_reducible refine Kp.drewN ?_ _) | (with_reducible refine Kp.setCell ?_ _ ?_))) <;> (first | omega | (simp; done) | (simp; omega))), (by first | (go_simp; done) | assumption), (by (repeat (first | with_reducible exact Below.refl _ _ | (with_reducible refine bel_next ?_ ?_ (by assumption)) | (with_reducible refine Below.alloc ?_ ?_ _) | (with_reducible refine Below.drew ?_) | (with_reducible refine below_drewN ?_ _) | (with_reducible refine Below.setCell ?_ ?_ _))) <;> (first | omega | (simp; done) | (simp; omega)))⟩
  case round =>
    obtain ⟨k, g, cp, hk, rfl, rfl, hown, k0, hbw⟩ := hrel
    have hbs := hbw.size
    have hge := hown.ge
    have hbx : w.heap.size < wr.heap.size := lt_of_cell k0
    by_cases hlt : k < gs.length
    · obtain ⟨b, off, gk, ga, gb, rfl, hbl, hx, d0, d1, d2⟩ := (HR.out.below hbw).gt k hlt
      have hg := gate_cases (show gateOk gk ga gb k = true from gtsOk_at HOK.out hx)
      have HSN := Lib.hid (evalW_snoc (bs := bs) hx)
      have hwl : (evalW bs (gs.take k)).length = k := by rw [evalW_len, List.length_take]; omega
      have hwb := evalW_b HL.out (gs.take k) (gtsOk_take HOK.out k)
      obtain ⟨ws, hws⟩ : ∃ x, x = evalW bs (gs.take k) := ⟨_, rfl⟩
      rw [← hws] at hown hwl hwb
      have HW := Lib.hid hws
      have HO := Lib.hid hown
      have HWL := Lib.hid hwl
      have HWB := Lib.hid hwb
      have hli : (k : Int) < (gs.length : Int) := by omega
      clear hws hown hwl hwb hx
      rcases hg with ⟨rfl, rfl, q1, q2⟩ | ⟨rfl, rfl, q1, q2⟩ | ⟨rfl, q1, q2, q3, q4⟩ | ⟨rfl, q1, q2, q3, q4⟩ | ⟨rfl, rfl, q1, q2⟩
      · obtain ⟨n, rfl⟩ := Int.eq_ofNat_of_zero_le q1
        have hnb : n < bs.length := by have := H80.out; omega
        obtain ⟨bb, ob, rfl, hbb, e1⟩ := (HB.out.below hbw).int n hnb
        have hnb' : (n : Int) < (bs.length : Int) := by omega
        have HV : Hid (gval bs ws ⟨1, n, 0⟩ = at0 bs n) := by show _ = _; simp [gval]
        obtain ⟨x, hx⟩ : ∃ x, x = at0 bs n := ⟨_, rfl⟩
        rw [← hx] at e1 HV
        clear hx
        go_wp2_with (refine wpList_push _ rfl _ _ rfl (w.heap.size + 1) g k cp ws x (wr.heap.size + 1) 1 (by rfl) (by rfl) (HO.out.later (by (repeat (first | with_reducible exact Kp.refl _ _ | (with_reducible refine Kp.rng ?_ (by assumption) ?_) | (with_reducible refine Kp.below ?_ (by assumption)) | (with_reducible refine Kp.grown ?_ (by assumption) ?_) | (with_reducible refine Kp.alloc ?_ _) | (with_reducible refine Kp.drew ?_) | (with_reducible refine Kp.drewN ?_ _) | (with_reducible refine Kp.setCell ?_ _ ?_))) <;> (first | omega | (simp; done) | (simp; omega)))) (by go_simp) (by omega) (by first | omega | (simp; done) | (simp; omega)) ?_; intro g5 c5 w5 ho5 hb5 hg5 hat5; (try simp at hat5); have z5 := hb5.size; (try simp at z5); have y5 := hg5.size; (try simp at y5); have ge5 := ho5.ge; have kk5 := grown_cell hg5 (b := w.heap.size) (o := 0) (x := .slice (some ⟨b, off, none⟩) gs.length c1) (by first | (simp; omega) | omega) (by go_simp))
        go_roundw
        case rel =>
          exact ⟨k + 1, g5, c5, by omega, by go_num, rfl, by (rw [HSN.out, ← HW.out, HV.out]; exact ho5), kk5, (by (repeat (first | with_reducible exact Below.refl _ _ | (with_reducible refine bel_next ?_ ?_ (by assumption)) | (with_reducible refine Below.alloc ?_ ?_ _) | (with_reducible refine Below.drew ?_) | (with_reducible refine below_drewN ?_ _) | (with_reducible refine Below.setCell ?_ ?_ _))) <;> (first | omega | (simp; done) | (simp; omega)))⟩
        case measure => simp [intOf]; omega
      · obtain ⟨n, rfl⟩ := Int.eq_ofNat_of_zero_le q1
        have HV : Hid (gval bs ws ⟨2, n, 0⟩ = n) := by show _ = _; simp [gval]
        go_wp2_with (refine wpList_push _ rfl _ _ rfl (w.heap.size + 1) g k cp ws (n : Int) (wr.heap.size + 1) 1 (by rfl) (by rfl) (HO.out.later (by (repeat (first | with_reducible exact Kp.refl _ _ | (with_reducible refine Kp.rng ?_ (by assumption) ?_) | (with_reducible refine Kp.below ?_ (by assumption)) | (with_reducible refine Kp.grown ?_ (by assumption) ?_) | (with_reducible refine Kp.alloc ?_ _) | (with_reducible refine Kp.drew ?_) | (with_reducible refine Kp.drewN ?_ _) | (with_reducible refine Kp.setCell ?_ _ ?_))) <;> (first | omega | (simp; done) | (simp; omega)))) (by go_simp) (by omega) (by first | omega | (simp; done) | (simp; omega)) ?_; intro g5 c5 w5 ho5 hb5 hg5 hat5; (try simp at hat5); have z5 := hb5.size; (try simp at z5); have y5 := hg5.size; (try simp at y5); have ge5 := ho5.ge; have kk5 := grown_cell hg5 (b := w.heap.size) (o := 0) (x := .slice (some ⟨b, off, none⟩) gs.length c1) (by first | (simp; omega) | omega) (by go_simp))
        go_roundw
        case rel =>
          exact ⟨k + 1, g5, c5, by omega, by go_num, rfl, by (rw [HSN.out, ← HW.out, HV.out]; exact ho5), kk5, (by (repeat (first | with_reducible exact Below.refl _ _ | (with_reducible refine bel_next ?_ ?_ (by assumption)) | (with_reducible refine Below.alloc ?_ ?_ _) | (with_reducible refine Below.drew ?_) | (with_reducible refine below_drewN ?_ _) | (with_reducible refine Below.setCell ?_ ?_ _))) <;> (first | omega | (simp; done) | (simp; omega)))⟩
        case measure => simp [intOf]; omega
      · obtain ⟨n, rfl⟩ := Int.eq_ofNat_of_zero_le q1
        obtain ⟨m, rfl⟩ := Int.eq_ofNat_of_zero_le q3
        have e1 := HO.out.int n (by have := HWL.out; omega)
        have e2 := HO.out.int m (by have := HWL.out; omega)
        have HV : Hid (gval bs ws ⟨3, n, m⟩ = bits .xor .i64 (at0 ws n) (at0 ws m)) := by show _ = _; simp [gval, xorI]
        obtain ⟨x, hx⟩ : ∃ x, x = at0 ws n := ⟨_, rfl⟩
        obtain ⟨y, hy⟩ : ∃ x, x = at0 ws m := ⟨_, rfl⟩
        rw [← hx] at e1 HV
        rw [← hy] at e2 HV
        clear hx hy
        go_wp2_with (refine wpList_push _ rfl _ _ rfl (w.heap.size + 1) g k cp ws (bits .xor .i64 x y) (wr.heap.size + 1) 1 (by rfl) (by rfl) (HO.out.later (by (repeat (first | with_reducible exact Kp.refl _ _ | (with_reducible refine Kp.rng ?_ (by assumption) ?_) | (with_reducible refine Kp.below ?_ (by assumption)) | (with_reducible refine Kp.grown ?_ (by assumption) ?_) | (with_reducible refine Kp.alloc ?_ _) | (with_reducible refine Kp.drew ?_) | (with_reducible refine Kp.drewN ?_ _) | (with_reducible refine Kp.setCell ?_ _ ?_))) <;> (first | omega | (simp; done) | (simp; omega)))) (by go_simp) (by omega) (by first | omega | (simp; done) | (simp; omega)) ?_; intro g5 c5 w5 ho5 hb5 hg5 hat5; (try simp at hat5); have z5 := hb5.size; (try simp at z5); have y5 := hg5.size; (try simp at y5); have ge5 := ho5.ge; have kk5 := grown_cell hg5 (b := w.heap.size) (o := 0) (x := .slice (some ⟨b, off, none⟩) gs.length c1) (by first | (simp; omega) | omega) (by go_simp))
        go_quiet (fail)
        go_wp2_with (refine wpList_push _ rfl _ _ rfl (w.heap.size + 1) g k cp ws (bits .xor .i64 x y) (wr.heap.size + 1) 1 (by rfl) (by rfl) (HO.out.later (by (repeat (first | with_reducible exact Kp.refl _ _ | (with_reducible refine Kp.rng ?_ (by assumption) ?_) | (with_reducible refine Kp.below ?_ (by assumption)) | (with_reducible refine Kp.grown ?_ (by assumption) ?_) | (with_reducible refine Kp.alloc ?_ _) | (with_reducible refine Kp.drew ?_) | (with_reducible refine Kp.drewN ?_ _) | (with_reducible refine Kp.setCell ?_ _ ?_))) <;> (first | omega | (simp; done) | (simp; omega)))) (by go_simp) (by omega) (by first | omega | (simp; done) | (simp; omega)) ?_; intro g5 c5 w5 ho5 hb5 hg5 hat5; (try simp at hat5); have z5 := hb5.size; (try simp at z5); have y5 := hg5.size; (try simp at y5); have ge5 := ho5.ge; have kk5 := grown_cell hg5 (b := w.heap.size) (o := 0) (x := .slice (some ⟨b, off, none⟩) gs.length c1) (by first | (simp; omega) | omega) (by go_simp))
        go_roundw
        case rel =>
          exact ⟨k + 1, g5, c5, by omega, by go_num, rfl, by (rw [HSN.out, ← HW.out, HV.out]; exact ho5), kk5, (by (repeat (first | with_reducible exact Below.refl _ _ | (with_reducible refine bel_next ?_ ?_ (by assumption)) | (with_reducible refine Below.alloc ?_ ?_ _) | (with_reducible refine Below.drew ?_) | (with_reducible refine below_drewN ?_ _) | (with_reducible refine Below.setCell ?_ ?_ _))) <;> (first | omega | (simp; done) | (simp; omega)))⟩
        case measure => simp [intOf]; omega
      · obtain ⟨n, rfl⟩ := Int.eq_ofNat_of_zero_le q1
        obtain ⟨m, rfl⟩ := Int.eq_ofNat_of_zero_le q3
        have e1 := HO.out.int n (by have := HWL.out; omega)
        have e2 := HO.out.int m (by have := HWL.out; omega)
        have HV : Hid (gval bs ws ⟨4, n, m⟩ = bits .and .i64 (at0 ws n) (at0 ws m)) := by show _ = _; simp [gval, andI]
        obtain ⟨x, hx⟩ : ∃ x, x = at0 ws n := ⟨_, rfl⟩
        obtain ⟨y, hy⟩ : ∃ x, x = at0 ws m := ⟨_, rfl⟩
        rw [← hx] at e1 HV
        rw [← hy] at e2 HV
        clear hx hy
        go_wp2_with (refine wpList_push _ rfl _ _ rfl (w.heap.size + 1) g k cp ws (bits .and .i64 x y) (wr.heap.size + 1) 1 (by rfl) (by rfl) (HO.out.later (by (repeat (first | with_reducible exact Kp.refl _ _ | (with_reducible refine Kp.rng ?_ (by assumption) ?_) | (with_reducible refine Kp.below ?_ (by assumption)) | (with_reducible refine Kp.grown ?_ (by assumption) ?_) | (with_reducible refine Kp.alloc ?_ _) | (with_reducible refine Kp.drew ?_) | (with_reducible refine Kp.drewN ?_ _) | (with_reducible refine Kp.setCell ?_ _ ?_))) <;> (first | omega | (simp; done) | (simp; omega)))) (by go_simp) (by omega) (by first | omega | (simp; done) | (simp; omega)) ?_; intro g5 c5 w5 ho5 hb5 hg5 hat5; (try simp at hat5); have z5 := hb5.size; (try simp at z5); have y5 := hg5.size; (try simp at y5); have ge5 := ho5.ge; have kk5 := grown_cell hg5 (b := w.heap.size) (o := 0) (x := .slice (some ⟨b, off, none⟩) gs.length c1) (by first | (simp; omega) | omega) (by go_simp))
        go_quiet (fail)
        go_wp2_with (refine wpList_push _ rfl _ _ rfl (w.heap.size + 1) g k cp ws (bits .and .i64 x y) (wr.heap.size + 1) 1 (by rfl) (by rfl) (HO.out.later (by (repeat (first | with_reducible exact Kp.refl _ _ | (with_reducible refine Kp.rng ?_ (by assumption) ?_) | (with_reducible refine Kp.below ?_ (by assumption)) | (with_reducible refine Kp.grown ?_ (by assumption) ?_) | (with_reducible refine Kp.alloc ?_ _) | (with_reducible refine Kp.drew ?_) | (with_reducible refine Kp.drewN ?_ _) | (with_reducible refine Kp.setCell ?_ _ ?_))) <;> (first | omega | (simp; done) | (simp; omega)))) (by go_simp) (by omega) (by first | omega | (simp; done) | (simp; omega)) ?_; intro g5 c5 w5 ho5 hb5 hg5 hat5; (try simp at hat5); have z5 := hb5.size; (try simp at z5); have y5 := hg5.size; (try simp at y5); have ge5 := ho5.ge; have kk5 := grown_cell hg5 (b := w.heap.size) (o := 0) (x := .slice (some ⟨b, off, none⟩) gs.length c1) (by first | (simp; omega) | omega) (by go_simp))
        go_roundw
        case rel =>
          exact ⟨k + 1, g5, c5, by omega, by go_num, rfl, by (rw [HSN.out, ← HW.out, HV.out]; exact ho5), kk5, (by (repeat (first | with_reducible exact Below.refl _ _ | (with_reducible refine bel_next ?_ ?_ (by assumption)) | (with_reducible refine Below.alloc ?_ ?_ _) | (with_reducible refine Below.drew ?_) | (with_reducible refine below_drewN ?_ _) | (with_reducible refine Below.setCell ?_ ?_ _))) <;> (first | omega | (simp; done) | (simp; omega)))⟩
        case measure => simp [intOf]; omega
      · obtain ⟨n, rfl⟩ := Int.eq_ofNat_of_zero_le q1
        have e1 := HO.out.int n (by have := HWL.out; omega)
        have hx01 := at0_b (i := (n : Int)) HWB.out (by omega) (by omega)
        have HV : Hid (gval bs ws ⟨5, n, 0⟩ = 1 - at0 ws n) := by show _ = _; simp [gval]
        obtain ⟨x, hx⟩ : ∃ x, x = at0 ws n := ⟨_, rfl⟩
        rw [← hx] at e1 HV hx01
        obtain ⟨x0, x1⟩ := hx01
        clear hx
        go_wp2_with (refine wpList_push _ rfl _ _ rfl (w.heap.size + 1) g k cp ws (1 - x) (wr.heap.size + 1) 1 (by rfl) (by rfl) (HO.out.later (by (repeat (first | with_reducible exact Kp.refl _ _ | (with_reducible refine Kp.rng ?_ (by assumption) ?_) | (with_reducible refine Kp.below ?_ (by assumption)) | (with_reducible refine Kp.grown ?_ (by assumption) ?_) | (with_reducible refine Kp.alloc ?_ _) | (with_reducible refine Kp.drew ?_) | (with_reducible refine Kp.drewN ?_ _) | (with_reducible refine Kp.setCell ?_ _ ?_))) <;> (first | omega | (simp; done) | (simp; omega)))) (by go_simp) (by omega) (by first | omega | (simp; done) | (simp; omega)) ?_; intro g5 c5 w5 ho5 hb5 hg5 hat5; (try simp at hat5); have z5 := hb5.size; (try simp at z5); have y5 := hg5.size; (try simp at y5); have ge5 := ho5.ge; have kk5 := grown_cell hg5 (b := w.heap.size) (o := 0) (x := .slice (some ⟨b, off, none⟩) gs.length c1) (by first | (simp; omega) | omega) (by go_simp))
        go_roundw
        case rel =>
          exact ⟨k + 1, g5, c5, by omega, by go_num, rfl, by (rw [HSN.out, ← HW.out, HV.out]; exact ho5), kk5, (by (repeat (first | with_reducible exact Below.refl _ _ | (with_reducible refine bel_next ?_ ?_ (by assumption)) | (with_reducible refine Below.alloc ?_ ?_ _) | (with_reducible refine Below.drew ?_) | (with_reducible refine below_drewN ?_ _) | (with_reducible refine Below.setCell ?_ ?_ _))) <;> (first | omega | (simp; done) | (simp; omega)))⟩
        case measure => simp [intOf]; omega
    · have HK : Hid (evalW bs (gs.take k) = evalW bs gs) := by show _ = _; rw [List.take_of_length_le (by omega)]
      rw [HK.out] at hown
      have HKL : Hid ((evalW bs gs).length = k) := by show _ = _; rw [evalW_len]; omega
      have HO := Lib.hid hown
      clear hown
      go_wp2_with fail
      go_ret
      exact ⟨some ⟨g, 0, none⟩, cp, by (rw [HKL.out]; rfl), by rw [HKL.out]; exact HO.out.lo (by omega), hbw⟩

set_option maxRecDepth 20000 in
set_option maxHeartbeats 4000000 in
theorem iEvalWires_any (gs : List Gt) (os bs : List Int) (a1 a2 ab : Option Addr) (c1 c2 cb : Nat) (w : World) (hm : gs.length ≤ 1048576) (hm2 : os.length ≤ 1048576) (hmb : bs.length ≤ 1048576) (hr : RdC w a1 (gtCells gs)) (hr2 : RdC w a2 (I64 os)) (hrb : RdC w ab (I64 bs)) :
    Calls Try.prog 28 #[.agg #[.slice a1 gs.length c1, .slice a2 os.length c2], .slice ab bs.length cb] w fun e w' => ∃ ad c, e = .returned (.slice ad (evalWires gs os bs).length c) ∧ Own w' w.heap.size 3 1 ad (evalWires gs os bs).length c (I64 (evalWires gs os bs)) ∧ Below w.heap.size w w' := by
  have HR := Lib.hid hr
  have HR2 := Lib.hid hr2
  have HB := Lib.hid hrb
  clear hr hr2 hrb
  cases hc : circOk gs os
  · have HC := Lib.hid hc
    rw [show evalWires gs os bs = [] by simp [evalWires, evalOuts, evalB_circ hc]]
    
    clear hc
    go_enter Try.func28, Try.ntmps28
    go_wp2_with (go_at_call 23; refine (iCircuitOk_any gs os _ _ _ _ _ hm hm2 (HR.out.below (by (repeat (first | with_reducible exact Below.refl _ _ | (with_reducible refine bel_next ?_ ?_ (by assumption)) | (with_reducible refine Below.alloc ?_ ?_ _) | (with_reducible refine Below.drew ?_) | (with_reducible refine below_drewN ?_ _) | (with_reducible refine Below.setCell ?_ ?_ _))) <;> (first | omega | (simp; done) | (simp; omega)))) (HR2.out.below (by (repeat (first | with_reducible exact Below.refl _ _ | (with_reducible refine bel_next ?_ ?_ (by assumption)) | (with_reducible refine Below.alloc ?_ ?_ _) | (with_reducible refine Below.drew ?_) | (with_reducible refine below_drewN ?_ _) | (with_reducible refine Below.setCell ?_ ?_ _))) <;> (first | omega | (simp; done) | (simp; omega))))).mono ?_; rintro e w1 ⟨rfl, hb1⟩; rw [HC.out]; have z1 := hb1.size; (try simp at z1); have y1 : w.heap.size < w1.heap.size := (by omega); have k1_0 := bel_keeps hb1 (b := w.heap.size) (o := 0) (v := .slice a1 gs.length c1) (by go_simp); have k1_1 := bel_keeps hb1 (b := w.heap.size) (o := 1) (v := .slice a2 os.length c2) (by go_simp))
    go_ret
    exact ⟨none, 0, rfl, Own.nil _ _ _ _, (by (repeat (first | with_reducible exact Below.refl _ _ | (with_reducible refine bel_next ?_ ?_ (by assumption)) | (with_reducible refine Below.alloc ?_ ?_ _) | (with_reducible refine Below.drew ?_) | (with_reducible refine below_drewN ?_ _) | (with_reducible refine Below.setCell ?_ ?_ _))) <;> (first | omega | (simp; done) | (simp; omega)))⟩
  have HC := Lib.hid hc
  by_cases h80 : bs.length = 80
  case neg =>
    have t80 : ((bs.length : Int) != 80) = true := by simp; omega
    rw [show evalWires gs os bs = [] by simp [evalWires, evalOuts, evalB, bitsB, h80]]
    
    clear hc h80
    go_enter Try.func28, Try.ntmps28
    go_wp2_with (first | (go_at_call 23; refine (iCircuitOk_any gs os _ _ _ _ _ hm hm2 (HR.out.below (by (repeat (first | with_reducible exact Below.refl _ _ | (with_reducible refine bel_next ?_ ?_ (by assumption)) | (with_reducible refine Below.alloc ?_ ?_ _) | (with_reducible refine Below.drew ?_) | (with_reducible refine below_drewN ?_ _) | (with_reducible refine Below.setCell ?_ ?_ _))) <;> (first | omega | (simp; done) | (simp; omega)))) (HR2.out.below (by (repeat (first | with_reducible exact Below.refl _ _ | (with_reducible refine bel_next ?_ ?_ (by assumption)) | (with_reducible refine Below.alloc ?_ ?_ _) | (with_reducible refine Below.drew ?_) | (with_reducible refine below_drewN ?_ _) | (with_reducible refine Below.setCell ?_ ?_ _))) <;> (first | omega | (simp; done) | (simp; omega))))).mono ?_; rintro e w1 ⟨rfl, hb1⟩; rw [HC.out]; have z1 := hb1.size; (try simp at z1); have y1 : w.heap.size < w1.heap.size := (by omega); have k1_0 := bel_keeps hb1 (b := w.heap.size) (o := 0) (v := .slice a1 gs.length c1) (by go_simp); have k1_1 := bel_keeps hb1 (b := w.heap.size) (o := 1) (v := .slice a2 os.length c2) (by go_simp)) | (go_at_call 63; refine (areBits_any bs _ _ _ (by unfold maxLen; omega) (HB.out.below (by (repeat (first | with_reducible exact Below.refl _ _ | (with_reducible refine bel_next ?_ ?_ (by assumption)) | (with_reducible refine Below.alloc ?_ ?_ _) | (with_reducible refine Below.drew ?_) | (with_reducible refine below_drewN ?_ _) | (with_reducible refine Below.setCell ?_ ?_ _))) <;> (first | omega | (simp; done) | (simp; omega))))).mono ?_; rintro e _ ⟨rfl, rfl⟩; rw [HC.out]))
    go_ret
    exact ⟨none, 0, rfl, Own.nil _ _ _ _, (by (repeat (first | with_reducible exact Below.refl _ _ | (with_reducible refine bel_next ?_ ?_ (by assumption)) | (with_reducible refine Below.alloc ?_ ?_ _) | (with_reducible refine Below.drew ?_) | (with_reducible refine below_drewN ?_ _) | (with_reducible refine Below.setCell ?_ ?_ _))) <;> (first | omega | (simp; done) | (simp; omega)))⟩
  have t80 : ((bs.length : Int) != 80) = false := by simp; omega
  cases hall : allB bs 0 1
  · have HT := Lib.hid hall
    rw [show evalWires gs os bs = [] by simp [evalWires, evalOuts, evalB, bitsB, hall]]
    
    clear hc hall
    have H80 := Lib.hid h80
    clear h80
    go_enter Try.func28, Try.ntmps28
    go_wp2_with (first | (go_at_call 23; refine (iCircuitOk_any gs os _ _ _ _ _ hm hm2 (HR.out.below (by (repeat (first | with_reducible exact Below.refl _ _ | (with_reducible refine bel_next ?_ ?_ (by assumption)) | (with_reducible refine Below.alloc ?_ ?_ _) | (with_reducible refine Below.drew ?_) | (with_reducible refine below_drewN ?_ _) | (with_reducible refine Below.setCell ?_ ?_ _))) <;> (first | omega | (simp; done) | (simp; omega)))) (HR2.out.below (by (repeat (first | with_reducible exact Below.refl _ _ | (with_reducible refine bel_next ?_ ?_ (by assumption)) | (with_reducible refine Below.alloc ?_ ?_ _) | (with_reducible refine Below.drew ?_) | (with_reducible refine below_drewN ?_ _) | (with_reducible refine Below.setCell ?_ ?_ _))) <;> (first | omega | (simp; done) | (simp; omega))))).mono ?_; rintro e w1 ⟨rfl, hb1⟩; rw [HC.out]; have z1 := hb1.size; (try simp at z1); have y1 : w.heap.size < w1.heap.size := (by omega); have k1_0 := bel_keeps hb1 (b := w.heap.size) (o := 0) (v := .slice a1 gs.length c1) (by go_simp); have k1_1 := bel_keeps hb1 (b := w.heap.size) (o := 1) (v := .slice a2 os.length c2) (by go_simp)) | (go_at_call 63; refine (areBits_any bs _ _ _ (by unfold maxLen; omega) (HB.out.below (by (repeat (first | with_reducible exact Below.refl _ _ | (with_reducible refine bel_next ?_ ?_ (by assumption)) | (with_reducible refine Below.alloc ?_ ?_ _) | (with_reducible refine Below.drew ?_) | (with_reducible refine below_drewN ?_ _) | (with_reducible refine Below.setCell ?_ ?_ _))) <;> (first | omega | (simp; done) | (simp; omega))))).mono ?_; rintro e _ ⟨rfl, rfl⟩; rw [HT.out]))
    go_ret
    exact ⟨none, 0, rfl, Own.nil _ _ _ _, (by (repeat (first | with_reducible exact Below.refl _ _ | (with_reducible refine bel_next ?_ ?_ (by assumption)) | (with_reducible refine Below.alloc ?_ ?_ _) | (with_reducible refine Below.drew ?_) | (with_reducible refine below_drewN ?_ _) | (with_reducible refine Below.setCell ?_ ?_ _))) <;> (first | omega | (simp; done) | (simp; omega)))⟩
  have ht : bitsB bs = true := by simp [bitsB, h80, hall]
  have HT := Lib.hid hall
  have hev : evalB gs os bs = true := by simp [evalB, hc, ht]
  obtain ⟨hok, hob, h6⟩ := circ_parts hc
  have H80 := Lib.hid h80
  have HL := Lib.hid hall
  have HOK := Lib.hid hok
  have HOB := Lib.hid hob
  have HF : Hid (evalWires gs os bs = evalW bs gs) := by show _ = _; simp [evalWires, hev]
  rw [HF.out]
  clear hc ht hev h80 hall hok hob HF
  go_enter Try.func28, Try.ntmps28
  go_wp2_with (first | (go_at_call 23; refine (iCircuitOk_any gs os _ _ _ _ _ hm hm2 (HR.out.below (by (repeat (first | with_reducible exact Below.refl _ _ | (with_reducible refine bel_next ?_ ?_ (by assumption)) | (with_reducible refine Below.alloc ?_ ?_ _) | (with_reducible refine Below.drew ?_) | (with_reducible refine below_drewN ?_ _) | (with_reducible refine Below.setCell ?_ ?_ _))) <;> (first | omega | (simp; done) | (simp; omega)))) (HR2.out.below (by (repeat (first | with_reducible exact Below.refl _ _ | (with_reducible refine bel_next ?_ ?_ (by assumption)) | (with_reducible refine Below.alloc ?_ ?_ _) | (with_reducible refine Below.drew ?_) | (with_reducible refine below_drewN ?_ _) | (with_reducible refine Below.setCell ?_ ?_ _))) <;> (first | omega | (simp; done) | (simp; omega))))).mono ?_; rintro e w1 ⟨rfl, hb1⟩; rw [HC.out]; have z1 := hb1.size; (try simp at z1); have y1 : w.heap.size < w1.heap.size := (by omega); have k1_0 := bel_keeps hb1 (b := w.heap.size) (o := 0) (v := .slice a1 gs.length c1) (by go_simp); have k1_1 := bel_keeps hb1 (b := w.heap.size) (o := 1) (v := .slice a2 os.length c2) (by go_simp)) | (go_at_call 63; refine (areBits_any bs _ _ _ (by unfold maxLen; omega) (HB.out.below (by (repeat (first | with_reducible exact Below.refl _ _ | (with_reducible refine bel_next ?_ ?_ (by assumption)) | (with_reducible refine Below.alloc ?_ ?_ _) | (with_reducible refine Below.drew ?_) | (with_reducible refine below_drewN ?_ _) | (with_reducible refine Below.setCell ?_ ?_ _))) <;> (first | omega | (simp; done) | (simp; omega))))).mono ?_; rintro e _ ⟨rfl, rfl⟩; rw [HT.out]))
  go_loopw [5, 26] (fun v i wr => ∃ k g cp : Nat, k ≤ gs.length ∧ i = .int .i64 k ∧ v = .slice (some ⟨g, 0, none⟩) k cp ∧ Own wr (w.heap.size + 1) 3 1 (some ⟨g, 0, none⟩) k cp (I64 (evalW bs (gs.take k))) ∧ wr.cell? ⟨w.heap.size, 0, none⟩ = some (.slice a1 gs.length c1) ∧ Below w.heap.size w wr) (fun _ i _ => gs.length - (intOf i).toNat)
  case atStart => exact ⟨0, w1.heap.size, 0, Nat.zero_le _, rfl, rfl, own_last w1 3 1 (w.heap.size + 1) w1.heap.size rfl (by omega), (by first | (go_simp; done) | assumption), (by (repeat (first | with_reducible exact Below.refl _ _ | (with_reducible refine bel_next ?_ ?_ (by assumption)) | (with_reducible refine Below.alloc ?_ ?_ _) | (with_reducible refine Below.drew ?_) | (with_reducible refine below_drewN ?_ _) | (with_reducible refine Below.setCell ?_ ?_ _))) <;> (first | omega | (simp; done) | (simp; omega)))⟩
  case round =>
    obtain ⟨k, g, cp, hk, rfl, rfl, hown, k0, hbw⟩ := hrel
    have hbs := hbw.size
    have hge := hown.ge
    have hbx : w.heap.size < wr.heap.size := lt_of_cell k0
    by_cases hlt : k < gs.length
    · obtain ⟨b, off, gk, ga, gb, rfl, hbl, hx, d0, d1, d2⟩ := (HR.out.below hbw).gt k hlt
      have hg := gate_cases (show gateOk gk ga gb k = true from gtsOk_at HOK.out hx)
      have HSN := Lib.hid (evalW_snoc (bs := bs) hx)
      have hwl : (evalW bs (gs.take k)).length = k := by rw [evalW_len, List.length_take]; omega
      have hwb := evalW_b HL.out (gs.take k) (gtsOk_take HOK.out k)
      obtain ⟨ws, hws⟩ : ∃ x, x = evalW bs (gs.take k) := ⟨_, rfl⟩
      rw [← hws] at hown hwl hwb
      have HW := Lib.hid hws
      have HO := Lib.hid hown
      have HWL := Lib.hid hwl
      have HWB := Lib.hid hwb
      have hli : (k : Int) < (gs.length : Int) := by omega
      clear hws hown hwl hwb hx
      rcases hg with ⟨rfl, rfl, q1, q2⟩ | ⟨rfl, rfl, q1, q2⟩ | ⟨rfl, q1, q2, q3, q4⟩ | ⟨rfl, q1, q2, q3, q4⟩ | ⟨rfl, rfl, q1, q2⟩
      · obtain ⟨n, rfl⟩ := Int.eq_ofNat_of_zero_le q1
        have hnb : n < bs.length := by have := H80.out; omega
        obtain ⟨bb, ob, rfl, hbb, e1⟩ := (HB.out.below hbw).int n hnb
        have hnb' : (n : Int) < (bs.length : Int) := by omega
        have HV : Hid (gval bs ws ⟨1, n, 0⟩ = at0 bs n) := by show _ = _; simp [gval]
        obtain ⟨x, hx⟩ : ∃ x, x = at0 bs n := ⟨_, rfl⟩
        rw [← hx] at e1 HV
        clear hx
        go_wp2_with (refine wpList_push _ rfl _ _ rfl (w.heap.size + 1) g k cp ws x (wr.heap.size + 1) 1 (by rfl) (by rfl) (HO.out.later (by (repeat (first | with_reducible exact Kp.refl _ _ | (with_reducible refine Kp.rng ?_ (by assumption) ?_) | (with_reducible refine Kp.below ?_ (by assumption)) | (with_reducible refine Kp.grown ?_ (by assumption) ?_) | (with_reducible refine Kp.alloc ?_ _) | (with_reducible refine Kp.drew ?_) | (with_reducible refine Kp.drewN ?_ _) | (with_reducible refine Kp.setCell ?_ _ ?_))) <;> (first | omega | (simp; done) | (simp; omega)))) (by go_simp) (by omega) (by first | omega | (simp; done) | (simp; omega)) ?_; intro g5 c5 w5 ho5 hb5 hg5 hat5; (try simp at hat5); have z5 := hb5.size; (try simp at z5); have y5 := hg5.size; (try simp at y5); have ge5 := ho5.ge; have kk5 := grown_cell hg5 (b := w.heap.size) (o := 0) (x := .slice (some ⟨b, off, none⟩) gs.length c1) (by first | (simp; omega) | omega) (by go_simp))
        go_roundw
        case rel =>
          exact ⟨k + 1, g5, c5, by omega, by go_num, rfl, by (rw [HSN.out, ← HW.out, HV.out]; exact ho5), kk5, (by (repeat (first | with_reducible exact Below.refl _ _ | (with_reducible refine bel_next ?_ ?_ (by assumption)) | (with_reducible refine Below.alloc ?_ ?_ _) | (with_reducible refine Below.drew ?_) | (with_reducible refine below_drewN ?_ _) | (with_reducible refine Below.setCell ?_ ?_ _))) <;> (first | omega | (simp; done) | (simp; omega)))⟩
        case measure => simp [intOf]; omega
      · obtain ⟨n, rfl⟩ := Int.eq_ofNat_of_zero_le q1
        have HV : Hid (gval bs ws ⟨2, n, 0⟩ = n) := by show _ = _; simp [gval]
        go_wp2_with (refine wpList_push _ rfl _ _ rfl (w.heap.size + 1) g k cp ws (n : Int) (wr.heap.size + 1) 1 (by rfl) (by rfl) (HO.out.later (by (repeat (first | with_reducible exact Kp.refl _ _ | (with_reducible refine Kp.rng ?_ (by assumption) ?_) | (with_reducible refine Kp.below ?_ (by assumption)) | (with_reducible refine Kp.grown ?_ (by assumption) ?_) | (with_reducible refine Kp.alloc ?_ _) | (with_reducible refine Kp.drew ?_) | (with_reducible refine Kp.drewN ?_ _) | (with_reducible refine Kp.setCell ?_ _ ?_))) <;> (first | omega | (simp; done) | (simp; omega)))) (by go_simp) (by omega) (by first | omega | (simp; done) | (simp; omega)) ?_; intro g5 c5 w5 ho5 hb5 hg5 hat5; (try simp at hat5); have z5 := hb5.size; (try simp at z5); have y5 := hg5.size; (try simp at y5); have ge5 := ho5.ge; have kk5 := grown_cell hg5 (b := w.heap.size) (o := 0) (x := .slice (some ⟨b, off, none⟩) gs.length c1) (by first | (simp; omega) | omega) (by go_simp))
        go_roundw
        case rel =>
          exact ⟨k + 1, g5, c5, by omega, by go_num, rfl, by (rw [HSN.out, ← HW.out, HV.out]; exact ho5), kk5, (by (repeat (first | with_reducible exact Below.refl _ _ | (with_reducible refine bel_next ?_ ?_ (by assumption)) | (with_reducible refine Below.alloc ?_ ?_ _) | (with_reducible refine Below.drew ?_) | (with_reducible refine below_drewN ?_ _) | (with_reducible refine Below.setCell ?_ ?_ _))) <;> (first | omega | (simp; done) | (simp; omega)))⟩
        case measure => simp [intOf]; omega
      · obtain ⟨n, rfl⟩ := Int.eq_ofNat_of_zero_le q1
        obtain ⟨m, rfl⟩ := Int.eq_ofNat_of_zero_le q3
        have e1 := HO.out.int n (by have := HWL.out; omega)
        have e2 := HO.out.int m (by have := HWL.out; omega)
        have HV : Hid (gval bs ws ⟨3, n, m⟩ = bits .xor .i64 (at0 ws n) (at0 ws m)) := by show _ = _; simp [gval, xorI]
        obtain ⟨x, hx⟩ : ∃ x, x = at0 ws n := ⟨_, rfl⟩
        obtain ⟨y, hy⟩ : ∃ x, x = at0 ws m := ⟨_, rfl⟩
        rw [← hx] at e1 HV
        rw [← hy] at e2 HV
        clear hx hy
        go_wp2_with (refine wpList_push _ rfl _ _ rfl (w.heap.size + 1) g k cp ws (bits .xor .i64 x y) (wr.heap.size + 1) 1 (by rfl) (by rfl) (HO.out.later (by (repeat (first | with_reducible exact Kp.refl _ _ | (with_reducible refine Kp.rng ?_ (by assumption) ?_) | (with_reducible refine Kp.below ?_ (by assumption)) | (with_reducible refine Kp.grown ?_ (by assumption) ?_) | (with_reducible refine Kp.alloc ?_ _) | (with_reducible refine Kp.drew ?_) | (with_reducible refine Kp.drewN ?_ _) | (with_reducible refine Kp.setCell ?_ _ ?_))) <;> (first | omega | (simp; done) | (simp; omega)))) (by go_simp) (by omega) (by first | omega | (simp; done) | (simp; omega)) ?_; intro g5 c5 w5 ho5 hb5 hg5 hat5; (try simp at hat5); have z5 := hb5.size; (try simp at z5); have y5 := hg5.size; (try simp at y5); have ge5 := ho5.ge; have kk5 := grown_cell hg5 (b := w.heap.size) (o := 0) (x := .slice (some ⟨b, off, none⟩) gs.length c1) (by first | (simp; omega) | omega) (by go_simp))
        go_quiet (fail)
        go_wp2_with (refine wpList_push _ rfl _ _ rfl (w.heap.size + 1) g k cp ws (bits .xor .i64 x y) (wr.heap.size + 1) 1 (by rfl) (by rfl) (HO.out.later (by (repeat (first | with_reducible exact Kp.refl _ _ | (with_reducible refine Kp.rng ?_ (by assumption) ?_) | (with_reducible refine Kp.below ?_ (by assumption)) | (with_reducible refine Kp.grown ?_ (by assumption) ?_) | (with_reducible refine Kp.alloc ?_ _) | (with_reducible refine Kp.drew ?_) | (with_reducible refine Kp.drewN ?_ _) | (with_reducible refine Kp.setCell ?_ _ ?_))) <;> (first | omega | (simp; done) | (simp; omega)))) (by go_simp) (by omega) (by first | omega | (simp; done) | (simp; omega)) ?_; intro g5 c5 w5 ho5 hb5 hg5 hat5; (try simp at hat5); have z5 := hb5.size; (try simp at z5); have y5 := hg5.size; (try simp at y5); have ge5 := ho5.ge; have kk5 := grown_cell hg5 (b := w.heap.size) (o := 0) (x := .slice (some ⟨b, off, none⟩) gs.length c1) (by first | (simp; omega) | omega) (by go_simp))
        go_roundw
        case rel =>
          exact ⟨k + 1, g5, c5, by omega, by go_num, rfl, by (rw [HSN.out, ← HW.out, HV.out]; exact ho5), kk5, (by (repeat (first | with_reducible exact Below.refl _ _ | (with_reducible refine bel_next ?_ ?_ (by assumption)) | (with_reducible refine Below.alloc ?_ ?_ _) | (with_reducible refine Below.drew ?_) | (with_reducible refine below_drewN ?_ _) | (with_reducible refine Below.setCell ?_ ?_ _))) <;> (first | omega | (simp; done) | (simp; omega)))⟩
        case measure => simp [intOf]; omega
      · obtain ⟨n, rfl⟩ := Int.eq_ofNat_of_zero_le q1
        obtain ⟨m, rfl⟩ := Int.eq_ofNat_of_zero_le q3
        have e1 := HO.out.int n (by have := HWL.out; omega)
        have e2 := HO.out.int m (by have := HWL.out; omega)
        have HV : Hid (gval bs ws ⟨4, n, m⟩ = bits .and .i64 (at0 ws n) (at0 ws m)) := by show _ = _; simp [gval, andI]
        obtain ⟨x, hx⟩ : ∃ x, x = at0 ws n := ⟨_, rfl⟩
        obtain ⟨y, hy⟩ : ∃ x, x = at0 ws m := ⟨_, rfl⟩
        rw [← hx] at e1 HV
        rw [← hy] at e2 HV
        clear hx hy
        go_wp2_with (refine wpList_push _ rfl _ _ rfl (w.heap.size + 1) g k cp ws (bits .and .i64 x y) (wr.heap.size + 1) 1 (by rfl) (by rfl) (HO.out.later (by (repeat (first | with_reducible exact Kp.refl _ _ | (with_reducible refine Kp.rng ?_ (by assumption) ?_) | (with_reducible refine Kp.below ?_ (by assumption)) | (with_reducible refine Kp.grown ?_ (by assumption) ?_) | (with_reducible refine Kp.alloc ?_ _) | (with_reducible refine Kp.drew ?_) | (with_reducible refine Kp.drewN ?_ _) | (with_reducible refine Kp.setCell ?_ _ ?_))) <;> (first | omega | (simp; done) | (simp; omega)))) (by go_simp) (by omega) (by first | omega | (simp; done) | (simp; omega)) ?_; intro g5 c5 w5 ho5 hb5 hg5 hat5; (try simp at hat5); have z5 := hb5.size; (try simp at z5); have y5 := hg5.size; (try simp at y5); have ge5 := ho5.ge; have kk5 := grown_cell hg5 (b := w.heap.size) (o := 0) (x := .slice (some ⟨b, off, none⟩) gs.length c1) (by first | (simp; omega) | omega) (by go_simp))
        go_quiet (fail)
        go_wp2_with (refine wpList_push _ rfl _ _ rfl (w.heap.size + 1) g k cp ws (bits .and .i64 x y) (wr.heap.size + 1) 1 (by rfl) (by rfl) (HO.out.later (by (repeat (first | with_reducible exact Kp.refl _ _ | (with_reducible refine Kp.rng ?_ (by assumption) ?_) | (with_reducible refine Kp.below ?_ (by assumption)) | (with_reducible refine Kp.grown ?_ (by assumption) ?_) | (with_reducible refine Kp.alloc ?_ _) | (with_reducible refine Kp.drew ?_) | (with_reducible refine Kp.drewN ?_ _) | (with_reducible refine Kp.setCell ?_ _ ?_))) <;> (first | omega | (simp; done) | (simp; omega)))) (by go_simp) (by omega) (by first | omega | (simp; done) | (simp; omega)) ?_; intro g5 c5 w5 ho5 hb5 hg5 hat5; (try simp at hat5); have z5 := hb5.size; (try simp at z5); have y5 := hg5.size; (try simp at y5); have ge5 := ho5.ge; have kk5 := grown_cell hg5 (b := w.heap.size) (o := 0) (x := .slice (some ⟨b, off, none⟩) gs.length c1) (by first | (simp; omega) | omega) (by go_simp))
        go_roundw
        case rel =>
          exact ⟨k + 1, g5, c5, by omega, by go_num, rfl, by (rw [HSN.out, ← HW.out, HV.out]; exact ho5), kk5, (by (repeat (first | with_reducible exact Below.refl _ _ | (with_reducible refine bel_next ?_ ?_ (by assumption)) | (with_reducible refine Below.alloc ?_ ?_ _) | (with_reducible refine Below.drew ?_) | (with_reducible refine below_drewN ?_ _) | (with_reducible refine Below.setCell ?_ ?_ _))) <;> (first | omega | (simp; done) | (simp; omega)))⟩
        case measure => simp [intOf]; omega
      · obtain ⟨n, rfl⟩ := Int.eq_ofNat_of_zero_le q1
        have e1 := HO.out.int n (by have := HWL.out; omega)
        have hx01 := at0_b (i := (n : Int)) HWB.out (by omega) (by omega)
        have HV : Hid (gval bs ws ⟨5, n, 0⟩ = 1 - at0 ws n) := by show _ = _; simp [gval]
        obtain ⟨x, hx⟩ : ∃ x, x = at0 ws n := ⟨_, rfl⟩
        rw [← hx] at e1 HV hx01
        obtain ⟨x0, x1⟩ := hx01
        clear hx
        go_wp2_with (refine wpList_push _ rfl _ _ rfl (w.heap.size + 1) g k cp ws (1 - x) (wr.heap.size + 1) 1 (by rfl) (by rfl) (HO.out.later (by (repeat (first | with_reducible exact Kp.refl _ _ | (with_reducible refine Kp.rng ?_ (by assumption) ?_) | (with_reducible refine Kp.below ?_ (by assumption)) | (with_reducible refine Kp.grown ?_ (by assumption) ?_) | (with_reducible refine Kp.alloc ?_ _) | (with_reducible refine Kp.drew ?_) | (with_reducible refine Kp.drewN ?_ _) | (with_reducible refine Kp.setCell ?_ _ ?_))) <;> (first | omega | (simp; done) | (simp; omega)))) (by go_simp) (by omega) (by first | omega | (simp; done) | (simp; omega)) ?_; intro g5 c5 w5 ho5 hb5 hg5 hat5; (try simp at hat5); have z5 := hb5.size; (try simp at z5); have y5 := hg5.size; (try simp at y5); have ge5 := ho5.ge; have kk5 := grown_cell hg5 (b := w.heap.size) (o := 0) (x := .slice (some ⟨b, off, none⟩) gs.length c1) (by first | (simp; omega) | omega) (by go_simp))
        go_roundw
        case rel =>
          exact ⟨k + 1, g5, c5, by omega, by go_num, rfl, by (rw [HSN.out, ← HW.out, HV.out]; exact ho5), kk5, (by (repeat (first | with_reducible exact Below.refl _ _ | (with_reducible refine bel_next ?_ ?_ (by assumption)) | (with_reducible refine Below.alloc ?_ ?_ _) | (with_reducible refine Below.drew ?_) | (with_reducible refine below_drewN ?_ _) | (with_reducible refine Below.setCell ?_ ?_ _))) <;> (first | omega | (simp; done) | (simp; omega)))⟩
        case measure => simp [intOf]; omega
    · have HK : Hid (evalW bs (gs.take k) = evalW bs gs) := by show _ = _; rw [List.take_of_length_le (by omega)]
      rw [HK.out] at hown
      have HKL : Hid ((evalW bs gs).length = k) := by show _ = _; rw [evalW_len]; omega
      have HO := Lib.hid hown
      clear hown
      go_wp2_with fail
      go_ret
      exact ⟨some ⟨g, 0, none⟩, cp, by (rw [HKL.out]; rfl), by rw [HKL.out]; exact HO.out.lo (by omega), hbw⟩

set_option maxRecDepth 20000 in
set_option maxHeartbeats 4000000 in
theorem sEvalCircuit_any (gs : List Gt) (os bs : List Int) (a1 a2 ab : Option Addr) (c1 c2 cb : Nat) (w : World) (hm : gs.length ≤ 1048576) (hm2 : os.length ≤ 1048576) (hmb : bs.length ≤ 1048576) (hr : RdC w a1 (gtCells gs)) (hr2 : RdC w a2 (I64 os)) (hrb : RdC w ab (I64 bs)) :
    Calls Try.prog 33 #[.agg #[.slice a1 gs.length c1, .slice a2 os.length c2], .slice ab bs.length cb] w fun e w' => ∃ ad c, e = .returned (.tuple #[.slice ad (evalOuts gs os bs).length c, .bool (evalB gs os bs)]) ∧ Own w' w.heap.size 3 1 ad (evalOuts gs os bs).length c (I64 (evalOuts gs os bs)) ∧ Below w.heap.size w w' := by
  have HR := Lib.hid hr
  have HR2 := Lib.hid hr2
  have HB := Lib.hid hrb
  clear hr hr2 hrb
  cases hc : circOk gs os
  · have HC := Lib.hid hc
    rw [show evalOuts gs os bs = [] by simp [evalWires, evalOuts, evalB_circ hc]]
    rw [evalB_circ hc]
    clear hc
    go_enter Try.func33, Try.ntmps33
    go_wp2_with (go_at_call 22; refine (sCircuitOk_any gs os _ _ _ _ _ hm hm2 (HR.out.below (by (repeat (first | with_reducible exact Below.refl _ _ | (with_reducible refine bel_next ?_ ?_ (by assumption)) | (with_reducible refine Below.alloc ?_ ?_ _) | (with_reducible refine Below.drew ?_) | (with_reducible refine below_drewN ?_ _) | (with_reducible refine Below.setCell ?_ ?_ _))) <;> (first | omega | (simp; done) | (simp; omega)))) (HR2.out.below (by (repeat (first | with_reducible exact Below.refl _ _ | (with_reducible refine bel_next ?_ ?_ (by assumption)) | (with_reducible refine Below.alloc ?_ ?_ _) | (with_reducible refine Below.drew ?_) | (with_reducible refine below_drewN ?_ _) | (with_reducible refine Below.setCell ?_ ?_ _))) <;> (first | omega | (simp; done) | (simp; omega))))).mono ?_; rintro e w1 ⟨rfl, hb1⟩; rw [HC.out]; have z1 := hb1.size; (try simp at z1); have y1 : w.heap.size < w1.heap.size := (by omega); have k1_0 := bel_keeps hb1 (b := w.heap.size) (o := 0) (v := .slice a1 gs.length c1) (by go_simp); have k1_1 := bel_keeps hb1 (b := w.heap.size) (o := 1) (v := .slice a2 os.length c2) (by go_simp))
    go_ret2
    exact ⟨some ⟨w.heap.size + 1, 0, none⟩, 0, rfl, (own_last (w.alloc (.cells #[.slice a1 gs.length c1, .slice a2 os.length c2] 30)) 3 1 w.heap.size (w.heap.size + 1) (by simp) (by omega)).later (by (repeat (first | with_reducible exact Kp.refl _ _ | (with_reducible refine Kp.rng ?_ (by assumption) ?_) | (with_reducible refine Kp.below ?_ (by assumption)) | (with_reducible refine Kp.grown ?_ (by assumption) ?_) | (with_reducible refine Kp.alloc ?_ _) | (with_reducible refine Kp.drew ?_) | (with_reducible refine Kp.drewN ?_ _) | (with_reducible refine Kp.setCell ?_ _ ?_))) <;> (first | omega | (simp; done) | (simp; omega))), (by (repeat (first | with_reducible exact Below.refl _ _ | (with_reducible refine bel_next ?_ ?_ (by assumption)) | (with_reducible refine Below.alloc ?_ ?_ _) | (with_reducible refine Below.drew ?_) | (with_reducible refine below_drewN ?_ _) | (with_reducible refine Below.setCell ?_ ?_ _))) <;> (first | omega | (simp; done) | (simp; omega)))⟩
  have HC := Lib.hid hc
  cases ht : bitsB bs
  · have HT := Lib.hid ht
    rw [show evalOuts gs os bs = [] by simp [evalWires, evalOuts, evalB_bits ht]]
    rw [evalB_bits ht]
    clear hc ht
    go_enter Try.func33, Try.ntmps33
    go_wp2_with (first | (go_at_call 22; refine (sCircuitOk_any gs os _ _ _ _ _ hm hm2 (HR.out.below (by (repeat (first | with_reducible exact Below.refl _ _ | (with_reducible refine bel_next ?_ ?_ (by assumption)) | (with_reducible refine Below.alloc ?_ ?_ _) | (with_reducible refine Below.drew ?_) | (with_reducible refine below_drewN ?_ _) | (with_reducible refine Below.setCell ?_ ?_ _))) <;> (first | omega | (simp; done) | (simp; omega)))) (HR2.out.below (by (repeat (first | with_reducible exact Below.refl _ _ | (with_reducible refine bel_next ?_ ?_ (by assumption)) | (with_reducible refine Below.alloc ?_ ?_ _) | (with_reducible refine Below.drew ?_) | (with_reducible refine below_drewN ?_ _) | (with_reducible refine Below.setCell ?_ ?_ _))) <;> (first | omega | (simp; done) | (simp; omega))))).mono ?_; rintro e w1 ⟨rfl, hb1⟩; rw [HC.out]; have z1 := hb1.size; (try simp at z1); have y1 : w.heap.size < w1.heap.size := (by omega); have k1_0 := bel_keeps hb1 (b := w.heap.size) (o := 0) (v := .slice a1 gs.length c1) (by go_simp); have k1_1 := bel_keeps hb1 (b := w.heap.size) (o := 1) (v := .slice a2 os.length c2) (by go_simp)) | (go_at_call 62; refine (l13Bits_any bs _ _ _ _ (by unfold maxLen; omega) (HB.out.below (by (repeat (first | with_reducible exact Below.refl _ _ | (with_reducible refine bel_next ?_ ?_ (by assumption)) | (with_reducible refine Below.alloc ?_ ?_ _) | (with_reducible refine Below.drew ?_) | (with_reducible refine below_drewN ?_ _) | (with_reducible refine Below.setCell ?_ ?_ _))) <;> (first | omega | (simp; done) | (simp; omega))))).mono ?_; rintro e _ ⟨rfl, rfl⟩; rw [bitsB_spec, HT.out]))
    go_ret2
    exact ⟨some ⟨w.heap.size + 1, 0, none⟩, 0, rfl, (own_last (w.alloc (.cells #[.slice a1 gs.length c1, .slice a2 os.length c2] 30)) 3 1 w.heap.size (w.heap.size + 1) (by simp) (by omega)).later (by (repeat (first | with_reducible exact Kp.refl _ _ | (with_reducible refine Kp.rng ?_ (by assumption) ?_) | (with_reducible refine Kp.below ?_ (by assumption)) | (with_reducible refine Kp.grown ?_ (by assumption) ?_) | (with_reducible refine Kp.alloc ?_ _) | (with_reducible refine Kp.drew ?_) | (with_reducible refine Kp.drewN ?_ _) | (with_reducible refine Kp.setCell ?_ _ ?_))) <;> (first | omega | (simp; done) | (simp; omega))), (by (repeat (first | with_reducible exact Below.refl _ _ | (with_reducible refine bel_next ?_ ?_ (by assumption)) | (with_reducible refine Below.alloc ?_ ?_ _) | (with_reducible refine Below.drew ?_) | (with_reducible refine below_drewN ?_ _) | (with_reducible refine Below.setCell ?_ ?_ _))) <;> (first | omega | (simp; done) | (simp; omega)))⟩
  have HT := Lib.hid ht
  have hpp := ht
  simp only [bitsB, Bool.and_eq_true, decide_eq_true_eq] at hpp
  obtain ⟨h80, hall⟩ := hpp
  have hev : evalB gs os bs = true := by simp [evalB, hc, ht]
  obtain ⟨hok, hob, h6⟩ := circ_parts hc
  have H80 := Lib.hid h80
  have HL := Lib.hid hall
  have HOK := Lib.hid hok
  have HOB := Lib.hid hob
  have HWV : Hid (evalWires gs os bs = evalW bs gs) := by show _ = _; simp [evalWires, hev]
  have HF : Hid (evalOuts gs os bs = outsOf (evalW bs gs) os) := by show _ = _; simp [evalOuts, hev]
  rw [HF.out, hev]
  have hwl := evalW_len bs gs
  obtain ⟨ws, hws⟩ : ∃ x, x = evalW bs gs := ⟨_, rfl⟩
  rw [← hws] at HWV hwl
  rw [← hws]
  have HWL := Lib.hid hwl
  clear hc ht hev h80 hall hok hob HF hws hwl
  go_enter Try.func33, Try.ntmps33
  go_wp2_with (first | (go_at_call 22; refine (sCircuitOk_any gs os _ _ _ _ _ hm hm2 (HR.out.below (by (repeat (first | with_reducible exact Below.refl _ _ | (with_reducible refine bel_next ?_ ?_ (by assumption)) | (with_reducible refine Below.alloc ?_ ?_ _) | (with_reducible refine Below.drew ?_) | (with_reducible refine below_drewN ?_ _) | (with_reducible refine Below.setCell ?_ ?_ _))) <;> (first | omega | (simp; done) | (simp; omega)))) (HR2.out.below (by (repeat (first | with_reducible exact Below.refl _ _ | (with_reducible refine bel_next ?_ ?_ (by assumption)) | (with_reducible refine Below.alloc ?_ ?_ _) | (with_reducible refine Below.drew ?_) | (with_reducible refine below_drewN ?_ _) | (with_reducible refine Below.setCell ?_ ?_ _))) <;> (first | omega | (simp; done) | (simp; omega))))).mono ?_; rintro e w1 ⟨rfl, hb1⟩; rw [HC.out]; have z1 := hb1.size; (try simp at z1); have y1 : w.heap.size < w1.heap.size := (by omega); have k1_0 := bel_keeps hb1 (b := w.heap.size) (o := 0) (v := .slice a1 gs.length c1) (by go_simp); have k1_1 := bel_keeps hb1 (b := w.heap.size) (o := 1) (v := .slice a2 os.length c2) (by go_simp)) | (go_at_call 62; refine (l13Bits_any bs _ _ _ _ (by unfold maxLen; omega) (HB.out.below (by (repeat (first | with_reducible exact Below.refl _ _ | (with_reducible refine bel_next ?_ ?_ (by assumption)) | (with_reducible refine Below.alloc ?_ ?_ _) | (with_reducible refine Below.drew ?_) | (with_reducible refine below_drewN ?_ _) | (with_reducible refine Below.setCell ?_ ?_ _))) <;> (first | omega | (simp; done) | (simp; omega))))).mono ?_; rintro e _ ⟨rfl, rfl⟩; rw [bitsB_spec, HT.out]) | (go_at_call 26; refine (sEvalWires_any gs os bs _ _ _ _ _ _ _ hm hm2 hmb (HR.out.below (by (repeat (first | with_reducible exact Below.refl _ _ | (with_reducible refine bel_next ?_ ?_ (by assumption)) | (with_reducible refine Below.alloc ?_ ?_ _) | (with_reducible refine Below.drew ?_) | (with_reducible refine below_drewN ?_ _) | (with_reducible refine Below.setCell ?_ ?_ _))) <;> (first | omega | (simp; done) | (simp; omega)))) (HR2.out.below (by (repeat (first | with_reducible exact Below.refl _ _ | (with_reducible refine bel_next ?_ ?_ (by assumption)) | (with_reducible refine Below.alloc ?_ ?_ _) | (with_reducible refine Below.drew ?_) | (with_reducible refine below_drewN ?_ _) | (with_reducible refine Below.setCell ?_ ?_ _))) <;> (first | omega | (simp; done) | (simp; omega)))) (HB.out.below (by (repeat (first | with_reducible exact Below.refl _ _ | (with_reducible refine bel_next ?_ ?_ (by assumption)) | (with_reducible refine Below.alloc ?_ ?_ _) | (with_reducible refine Below.drew ?_) | (with_reducible refine below_drewN ?_ _) | (with_reducible refine Below.setCell ?_ ?_ _))) <;> (first | omega | (simp; done) | (simp; omega))))).mono ?_; rw [HWV.out]; rintro e w2 ⟨ad2, cp2, rfl, ho2, hb2⟩; have z2 := hb2.size; (try simp at z2); have y2 : w.heap.size < w2.heap.size := (by omega); have k2_0 := bel_keeps hb2 (b := w.heap.size) (o := 0) (v := .slice a1 gs.length c1) (by go_simp); have k2_1 := bel_keeps hb2 (b := w.heap.size) (o := 1) (v := .slice a2 os.length c2) (by go_simp); have HI2 := Lib.hid ho2.ins; have HO2 := Lib.hid ho2.rd; clear ho2))
  go_loopw [6, 8] (fun v i wr => ∃ k g cp : Nat, k ≤ os.length ∧ i = .int .i64 k ∧ v = .slice (some ⟨g, 0, none⟩) k cp ∧ Own wr (w.heap.size + 1) 3 1 (some ⟨g, 0, none⟩) k cp (I64 (outsOf ws (os.take k))) ∧ wr.cell? ⟨w.heap.size, 1, none⟩ = some (.slice a2 os.length c2) ∧ RdC wr ad2 (I64 ws) ∧ (∀ a, ad2 = some a → a.block ≠ g) ∧ Below w.heap.size w wr ∧ w2.heap.size ≤ wr.heap.size) (fun _ i _ => os.length - (intOf i).toNat)
  case atStart =>
    refine ⟨0, w.heap.size + 1, 0, Nat.zero_le _, rfl, rfl, ?_, (by first | (go_simp; done) | assumption), HO2.out.below (by (repeat (first | with_reducible exact Below.refl _ _ | (with_reducible refine bel_next ?_ ?_ (by assumption)) | (with_reducible refine Below.alloc ?_ ?_ _) | (with_reducible refine Below.drew ?_) | (with_reducible refine below_drewN ?_ _) | (with_reducible refine Below.setCell ?_ ?_ _))) <;> (first | omega | (simp; done) | (simp; omega))), ?_, (by (repeat (first | with_reducible exact Below.refl _ _ | (with_reducible refine bel_next ?_ ?_ (by assumption)) | (with_reducible refine Below.alloc ?_ ?_ _) | (with_reducible refine Below.drew ?_) | (with_reducible refine below_drewN ?_ _) | (with_reducible refine Below.setCell ?_ ?_ _))) <;> (first | omega | (simp; done) | (simp; omega))), (by first | omega | (simp; done) | (simp; omega))⟩
    · exact (own_last (w.alloc (.cells #[.slice a1 gs.length c1, .slice a2 os.length c2] 30)) 3 1 (w.heap.size + 1) (w.heap.size + 1) (by simp) (Nat.le_refl _)).later (by (repeat (first | with_reducible exact Kp.refl _ _ | (with_reducible refine Kp.rng ?_ (by assumption) ?_) | (with_reducible refine Kp.below ?_ (by assumption)) | (with_reducible refine Kp.grown ?_ (by assumption) ?_) | (with_reducible refine Kp.alloc ?_ _) | (with_reducible refine Kp.drew ?_) | (with_reducible refine Kp.drewN ?_ _) | (with_reducible refine Kp.setCell ?_ _ ?_))) <;> (first | omega | (simp; done) | (simp; omega)))
    · intro a ha; have := HI2.out a ha; (try simp at this); omega
  case round =>
    obtain ⟨k, g, cp, hk, rfl, rfl, hown, k0, hrd, hne, hbw, hw2⟩ := hrel
    have hbs := hbw.size
    have hge := hown.ge
    have hbx : w.heap.size < wr.heap.size := lt_of_cell k0
    have HO := Lib.hid hown
    have HRD := Lib.hid hrd
    have HNE := Lib.hid hne
    clear hown hrd hne
    by_cases hlt : k < os.length
    · obtain ⟨b, off, rfl, hbl, e0⟩ := (HR2.out.below hbw).int k hlt
      have hob := allB_iff.1 HOB.out os[k] (List.getElem_mem _)
      have hat : os[k] = at0 os k := by rw [at0_nat]; simp [List.getD, List.getElem?_eq_getElem hlt]
      have HSN := Lib.hid (outsOf_snoc (ws := ws) hlt)
      rw [hat] at hob HSN
      obtain ⟨o, ho⟩ : ∃ x, x = at0 os k := ⟨_, rfl⟩
      rw [← ho] at hob HSN e0
      obtain ⟨o0, o1⟩ := hob
      clear ho hat
      obtain ⟨n, rfl⟩ := Int.eq_ofNat_of_zero_le o0
      obtain ⟨b2, off2, rfl, hbl2, e2⟩ := HRD.out.int n (by have := HWL.out; omega)
      have hli : (k : Int) < (os.length : Int) := by omega
      have hln : (n : Int) < (ws.length : Int) := by have := HWL.out; omega
      have hbg : b2 ≠ g := HNE.out _ rfl
      obtain ⟨y, hy⟩ : ∃ x, x = at0 ws n := ⟨_, rfl⟩
      rw [← hy] at e2 HSN
      clear hy
      go_wp2_with (refine wpList_push _ rfl _ _ rfl (w.heap.size + 1) g k cp (outsOf ws (os.take k)) y wr.heap.size 1 (by rfl) (by rfl) (HO.out.later (by (repeat (first | with_reducible exact Kp.refl _ _ | (with_reducible refine Kp.rng ?_ (by assumption) ?_) | (with_reducible refine Kp.below ?_ (by assumption)) | (with_reducible refine Kp.grown ?_ (by assumption) ?_) | (with_reducible refine Kp.alloc ?_ _) | (with_reducible refine Kp.drew ?_) | (with_reducible refine Kp.drewN ?_ _) | (with_reducible refine Kp.setCell ?_ _ ?_))) <;> (first | omega | (simp; done) | (simp; omega)))) (by go_simp) (by omega) (by first | omega | (simp; done) | (simp; omega)) ?_; intro g5 c5 w5 ho5 hb5 hg5 hat5; (try simp at hat5); have z5 := hb5.size; (try simp at z5); have y5 := hg5.size; (try simp at y5); have ge5 := ho5.ge; have kk5 := grown_cell hg5 (b := w.heap.size) (o := 1) (x := .slice (some ⟨b, off, none⟩) os.length c2) (by first | (simp; omega) | omega) (by go_simp))
      go_roundw
      case rel =>
        refine ⟨k + 1, g5, c5, by omega, by go_num, rfl, by (rw [HSN.out]; exact ho5), kk5, HRD.out.keep fun b off e => ?_, fun a ha => ?_, (by (repeat (first | with_reducible exact Below.refl _ _ | (with_reducible refine bel_next ?_ ?_ (by assumption)) | (with_reducible refine Below.alloc ?_ ?_ _) | (with_reducible refine Below.drew ?_) | (with_reducible refine below_drewN ?_ _) | (with_reducible refine Below.setCell ?_ ?_ _))) <;> (first | omega | (simp; done) | (simp; omega))), by omega⟩
        · have hbg' := HNE.out _ e
          simp at hbg'
          exact (by (repeat (first | with_reducible exact Kp.refl _ _ | (with_reducible refine Kp.rng ?_ (by assumption) ?_) | (with_reducible refine Kp.below ?_ (by assumption)) | (with_reducible refine Kp.grown ?_ (by assumption) ?_) | (with_reducible refine Kp.alloc ?_ _) | (with_reducible refine Kp.drew ?_) | (with_reducible refine Kp.drewN ?_ _) | (with_reducible refine Kp.setCell ?_ _ ?_))) <;> (first | omega | (simp; done) | (simp; omega)))
        · have h1 := HNE.out a ha
          have h2 := HI2.out a ha
          omega
      case measure => simp [intOf]; omega
    · have HK : Hid (outsOf ws (os.take k) = outsOf ws os) := by show _ = _; rw [List.take_of_length_le (by omega)]
      have hown := HO.out
      rw [HK.out] at hown
      have HKL : Hid ((outsOf ws os).length = k) := by show _ = _; rw [outsOf_len]; omega
      have HO' := Lib.hid hown
      clear hown
      go_wp2_with fail
      go_ret2
      exact ⟨some ⟨g, 0, none⟩, cp, by (rw [HKL.out]; rfl), by rw [HKL.out]; exact HO'.out.lo (by omega), hbw⟩

set_option maxRecDepth 20000 in
set_option maxHeartbeats 4000000 in
theorem iEvalCircuit_any (gs : List Gt) (os bs : List Int) (a1 a2 ab : Option Addr) (c1 c2 cb : Nat) (w : World) (hm : gs.length ≤ 1048576) (hm2 : os.length ≤ 1048576) (hmb : bs.length ≤ 1048576) (hr : RdC w a1 (gtCells gs)) (hr2 : RdC w a2 (I64 os)) (hrb : RdC w ab (I64 bs)) :
    Calls Try.prog 34 #[.agg #[.slice a1 gs.length c1, .slice a2 os.length c2], .slice ab bs.length cb] w fun e w' => ∃ ad c, e = .returned (.tuple #[.slice ad (evalOuts gs os bs).length c, .bool (evalB gs os bs)]) ∧ Own w' w.heap.size 3 1 ad (evalOuts gs os bs).length c (I64 (evalOuts gs os bs)) ∧ Below w.heap.size w w' := by
  have HR := Lib.hid hr
  have HR2 := Lib.hid hr2
  have HB := Lib.hid hrb
  clear hr hr2 hrb
  cases hc : circOk gs os
  · have HC := Lib.hid hc
    rw [show evalOuts gs os bs = [] by simp [evalWires, evalOuts, evalB_circ hc]]
    rw [evalB_circ hc]
    clear hc
    go_enter Try.func34, Try.ntmps34
    go_wp2_with (go_at_call 23; refine (iCircuitOk_any gs os _ _ _ _ _ hm hm2 (HR.out.below (by (repeat (first | with_reducible exact Below.refl _ _ | (with_reducible refine bel_next ?_ ?_ (by assumption)) | (with_reducible refine Below.alloc ?_ ?_ _) | (with_reducible refine Below.drew ?_) | (with_reducible refine below_drewN ?_ _) | (with_reducible refine Below.setCell ?_ ?_ _))) <;> (first | omega | (simp; done) | (simp; omega)))) (HR2.out.below (by (repeat (first | with_reducible exact Below.refl _ _ | (with_reducible refine bel_next ?_ ?_ (by assumption)) | (with_reducible refine Below.alloc ?_ ?_ _) | (with_reducible refine Below.drew ?_) | (with_reducible refine below_drewN ?_ _) | (with_reducible refine Below.setCell ?_ ?_ _))) <;> (first | omega | (simp; done) | (simp; omega))))).mono ?_; rintro e w1 ⟨rfl, hb1⟩; rw [HC.out]; have z1 := hb1.size; (try simp at z1); have y1 : w.heap.size < w1.heap.size := (by omega); have k1_0 := bel_keeps hb1 (b := w.heap.size) (o := 0) (v := .slice a1 gs.length c1) (by go_simp); have k1_1 := bel_keeps hb1 (b := w.heap.size) (o := 1) (v := .slice a2 os.length c2) (by go_simp))
    go_ret2
    exact ⟨none, 0, rfl, Own.nil _ _ _ _, (by (repeat (first | with_reducible exact Below.refl _ _ | (with_reducible refine bel_next ?_ ?_ (by assumption)) | (with_reducible refine Below.alloc ?_ ?_ _) | (with_reducible refine Below.drew ?_) | (with_reducible refine below_drewN ?_ _) | (with_reducible refine Below.setCell ?_ ?_ _))) <;> (first | omega | (simp; done) | (simp; omega)))⟩
  have HC := Lib.hid hc
  by_cases h80 : bs.length = 80
  case neg =>
    have t80 : ((bs.length : Int) != 80) = true := by simp; omega
    rw [show evalOuts gs os bs = [] by simp [evalWires, evalOuts, evalB, bitsB, h80]]
    rw [show evalB gs os bs = false by simp [evalB, bitsB, h80]]
    clear hc h80
    go_enter Try.func34, Try.ntmps34
    go_wp2_with (first | (go_at_call 23; refine (iCircuitOk_any gs os _ _ _ _ _ hm hm2 (HR.out.below (by (repeat (first | with_reducible exact Below.refl _ _ | (with_reducible refine bel_next ?_ ?_ (by assumption)) | (with_reducible refine Below.alloc ?_ ?_ _) | (with_reducible refine Below.drew ?_) | (with_reducible refine below_drewN ?_ _) | (with_reducible refine Below.setCell ?_ ?_ _))) <;> (first | omega | (simp; done) | (simp; omega)))) (HR2.out.below (by (repeat (first | with_reducible exact Below.refl _ _ | (with_reducible refine bel_next ?_ ?_ (by assumption)) | (with_reducible refine Below.alloc ?_ ?_ _) | (with_reducible refine Below.drew ?_) | (with_reducible refine below_drewN ?_ _) | (with_reducible refine Below.setCell ?_ ?_ _))) <;> (first | omega | (simp; done) | (simp; omega))))).mono ?_; rintro e w1 ⟨rfl, hb1⟩; rw [HC.out]; have z1 := hb1.size; (try simp at z1); have y1 : w.heap.size < w1.heap.size := (by omega); have k1_0 := bel_keeps hb1 (b := w.heap.size) (o := 0) (v := .slice a1 gs.length c1) (by go_simp); have k1_1 := bel_keeps hb1 (b := w.heap.size) (o := 1) (v := .slice a2 os.length c2) (by go_simp)) | (go_at_call 63; refine (areBits_any bs _ _ _ (by unfold maxLen; omega) (HB.out.below (by (repeat (first | with_reducible exact Below.refl _ _ | (with_reducible refine bel_next ?_ ?_ (by assumption)) | (with_reducible refine Below.alloc ?_ ?_ _) | (with_reducible refine Below.drew ?_) | (with_reducible refine below_drewN ?_ _) | (with_reducible refine Below.setCell ?_ ?_ _))) <;> (first | omega | (simp; done) | (simp; omega))))).mono ?_; rintro e _ ⟨rfl, rfl⟩; rw [HC.out]))
    go_ret2
    exact ⟨none, 0, rfl, Own.nil _ _ _ _, (by (repeat (first | with_reducible exact Below.refl _ _ | (with_reducible refine bel_next ?_ ?_ (by assumption)) | (with_reducible refine Below.alloc ?_ ?_ _) | (with_reducible refine Below.drew ?_) | (with_reducible refine below_drewN ?_ _) | (with_reducible refine Below.setCell ?_ ?_ _))) <;> (first | omega | (simp; done) | (simp; omega)))⟩
  have t80 : ((bs.length : Int) != 80) = false := by simp; omega
  cases hall : allB bs 0 1
  · have HT := Lib.hid hall
    rw [show evalOuts gs os bs = [] by simp [evalWires, evalOuts, evalB, bitsB, hall]]
    rw [show evalB gs os bs = false by simp [evalB, bitsB, hall]]
    clear hc hall
    have H80 := Lib.hid h80
    clear h80
    go_enter Try.func34, Try.ntmps34
    go_wp2_with (first | (go_at_call 23; refine (iCircuitOk_any gs os _ _ _ _ _ hm hm2 (HR.out.below (by (repeat (first | with_reducible exact Below.refl _ _ | (with_reducible refine bel_next ?_ ?_ (by assumption)) | (with_reducible refine Below.alloc ?_ ?_ _) | (with_reducible refine Below.drew ?_) | (with_reducible refine below_drewN ?_ _) | (with_reducible refine Below.setCell ?_ ?_ _))) <;> (first | omega | (simp; done) | (simp; omega)))) (HR2.out.below (by (repeat (first | with_reducible exact Below.refl _ _ | (with_reducible refine bel_next ?_ ?_ (by assumption)) | (with_reducible refine Below.alloc ?_ ?_ _) | (with_reducible refine Below.drew ?_) | (with_reducible refine below_drewN ?_ _) | (with_reducible refine Below.setCell ?_ ?_ _))) <;> (first | omega | (simp; done) | (simp; omega))))).mono ?_; rintro e w1 ⟨rfl, hb1⟩; rw [HC.out]; have z1 := hb1.size; (try simp at z1); have y1 : w.heap.size < w1.heap.size := (by omega); have k1_0 := bel_keeps hb1 (b := w.heap.size) (o := 0) (v := .slice a1 gs.length c1) (by go_simp); have k1_1 := bel_keeps hb1 (b := w.heap.size) (o := 1) (v := .slice a2 os.length c2) (by go_simp)) | (go_at_call 63; refine (areBits_any bs _ _ _ (by unfold maxLen; omega) (HB.out.below (by (repeat (first | with_reducible exact Below.refl _ _ | (with_reducible refine bel_next ?_ ?_ (by assumption)) | (with_reducible refine Below.alloc ?_ ?_ _) | (with_reducible refine Below.drew ?_) | (with_reducible refine below_drewN ?_ _) | (with_reducible refine Below.setCell ?_ ?_ _))) <;> (first | omega | (simp; done) | (simp; omega))))).mono ?_; rintro e _ ⟨rfl, rfl⟩; rw [HT.out]))
    go_ret2
    exact ⟨none, 0, rfl, Own.nil _ _ _ _, (by (repeat (first | with_reducible exact Below.refl _ _ | (with_reducible refine bel_next ?_ ?_ (by assumption)) | (with_reducible refine Below.alloc ?_ ?_ _) | (with_reducible refine Below.drew ?_) | (with_reducible refine below_drewN ?_ _) | (with_reducible refine Below.setCell ?_ ?_ _))) <;> (first | omega | (simp; done) | (simp; omega)))⟩
  have ht : bitsB bs = true := by simp [bitsB, h80, hall]
  have HT := Lib.hid hall
  have hev : evalB gs os bs = true := by simp [evalB, hc, ht]
  obtain ⟨hok, hob, h6⟩ := circ_parts hc
  have H80 := Lib.hid h80
  have HL := Lib.hid hall
  have HOK := Lib.hid hok
  have HOB := Lib.hid hob
  have HWV : Hid (evalWires gs os bs = evalW bs gs) := by show _ = _; simp [evalWires, hev]
  have HF : Hid (evalOuts gs os bs = outsOf (evalW bs gs) os) := by show _ = _; simp [evalOuts, hev]
  rw [HF.out, hev]
  have hwl := evalW_len bs gs
  obtain ⟨ws, hws⟩ : ∃ x, x = evalW bs gs := ⟨_, rfl⟩
  rw [← hws] at HWV hwl
  rw [← hws]
  have HWL := Lib.hid hwl
  clear hc ht hev h80 hall hok hob HF hws hwl
  go_enter Try.func34, Try.ntmps34
  go_wp2_with (first | (go_at_call 23; refine (iCircuitOk_any gs os _ _ _ _ _ hm hm2 (HR.out.below (by (repeat (first | with_reducible exact Below.refl _ _ | (with_reducible refine bel_next ?_ ?_ (by assumption)) | (with_reducible refine Below.alloc ?_ ?_ _) | (with_reducible refine Below.drew ?_) | (with_reducible refine below_drewN ?_ _) | (with_reducible refine Below.setCell ?_ ?_ _))) <;> (first | omega | (simp; done) | (simp; omega)))) (HR2.out.below (by (repeat (first | with_reducible exact Below.refl _ _ | (with_reducible refine bel_next ?_ ?_ (by assumption)) | (with_reducible refine Below.alloc ?_ ?_ _) | (with_reducible refine Below.drew ?_) | (with_reducible refine below_drewN ?_ _) | (with_reducible refine Below.setCell ?_ ?_ _))) <;> (first | omega | (simp; done) | (simp; omega))))).mono ?_; rintro e w1 ⟨rfl, hb1⟩; rw [HC.out]; have z1 := hb1.size; (try simp at z1); have y1 : w.heap.size < w1.heap.size := (by omega); have k1_0 := bel_keeps hb1 (b := w.heap.size) (o := 0) (v := .slice a1 gs.length c1) (by go_simp); have k1_1 := bel_keeps hb1 (b := w.heap.size) (o := 1) (v := .slice a2 os.length c2) (by go_simp)) | (go_at_call 63; refine (areBits_any bs _ _ _ (by unfold maxLen; omega) (HB.out.below (by (repeat (first | with_reducible exact Below.refl _ _ | (with_reducible refine bel_next ?_ ?_ (by assumption)) | (with_reducible refine Below.alloc ?_ ?_ _) | (with_reducible refine Below.drew ?_) | (with_reducible refine below_drewN ?_ _) | (with_reducible refine Below.setCell ?_ ?_ _))) <;> (first | omega | (simp; done) | (simp; omega))))).mono ?_; rintro e _ ⟨rfl, rfl⟩; rw [HT.out]) | (go_at_call 28; refine (iEvalWires_any gs os bs _ _ _ _ _ _ _ hm hm2 hmb (HR.out.below (by (repeat (first | with_reducible exact Below.refl _ _ | (with_reducible refine bel_next ?_ ?_ (by assumption)) | (with_reducible refine Below.alloc ?_ ?_ _) | (with_reducible refine Below.drew ?_) | (with_reducible refine below_drewN ?_ _) | (with_reducible refine Below.setCell ?_ ?_ _))) <;> (first | omega | (simp; done) | (simp; omega)))) (HR2.out.below (by (repeat (first | with_reducible exact Below.refl _ _ | (with_reducible refine bel_next ?_ ?_ (by assumption)) | (with_reducible refine Below.alloc ?_ ?_ _) | (with_reducible refine Below.drew ?_) | (with_reducible refine below_drewN ?_ _) | (with_reducible refine Below.setCell ?_ ?_ _))) <;> (first | omega | (simp; done) | (simp; omega)))) (HB.out.below (by (repeat (first | with_reducible exact Below.refl _ _ | (with_reducible refine bel_next ?_ ?_ (by assumption)) | (with_reducible refine Below.alloc ?_ ?_ _) | (with_reducible refine Below.drew ?_) | (with_reducible refine below_drewN ?_ _) | (with_reducible refine Below.setCell ?_ ?_ _))) <;> (first | omega | (simp; done) | (simp; omega))))).mono ?_; rw [HWV.out]; rintro e w2 ⟨ad2, cp2, rfl, ho2, hb2⟩; have z2 := hb2.size; (try simp at z2); have y2 : w.heap.size < w2.heap.size := (by omega); have k2_0 := bel_keeps hb2 (b := w.heap.size) (o := 0) (v := .slice a1 gs.length c1) (by go_simp); have k2_1 := bel_keeps hb2 (b := w.heap.size) (o := 1) (v := .slice a2 os.length c2) (by go_simp); have HI2 := Lib.hid ho2.ins; have HO2 := Lib.hid ho2.rd; clear ho2))
  go_loopw [7, 30] (fun v i wr => ∃ k g cp : Nat, k ≤ os.length ∧ i = .int .i64 k ∧ v = .slice (some ⟨g, 0, none⟩) k cp ∧ Own wr (w.heap.size + 1) 3 1 (some ⟨g, 0, none⟩) k cp (I64 (outsOf ws (os.take k))) ∧ wr.cell? ⟨w.heap.size, 1, none⟩ = some (.slice a2 os.length c2) ∧ RdC wr ad2 (I64 ws) ∧ (∀ a, ad2 = some a → a.block ≠ g) ∧ Below w.heap.size w wr ∧ w2.heap.size ≤ wr.heap.size) (fun _ i _ => os.length - (intOf i).toNat)
  case atStart =>
    refine ⟨0, w2.heap.size, 0, Nat.zero_le _, rfl, rfl, ?_, (by first | (go_simp; done) | assumption), HO2.out.below (by (repeat (first | with_reducible exact Below.refl _ _ | (with_reducible refine bel_next ?_ ?_ (by assumption)) | (with_reducible refine Below.alloc ?_ ?_ _) | (with_reducible refine Below.drew ?_) | (with_reducible refine below_drewN ?_ _) | (with_reducible refine Below.setCell ?_ ?_ _))) <;> (first | omega | (simp; done) | (simp; omega))), ?_, (by (repeat (first | with_reducible exact Below.refl _ _ | (with_reducible refine bel_next ?_ ?_ (by assumption)) | (with_reducible refine Below.alloc ?_ ?_ _) | (with_reducible refine Below.drew ?_) | (with_reducible refine below_drewN ?_ _) | (with_reducible refine Below.setCell ?_ ?_ _))) <;> (first | omega | (simp; done) | (simp; omega))), (by first | omega | (simp; done) | (simp; omega))⟩
    · exact own_last w2 3 1 (w.heap.size + 1) w2.heap.size rfl (by omega)
    · intro a ha; have := HI2.out a ha; (try simp at this); omega
  case round =>
    obtain ⟨k, g, cp, hk, rfl, rfl, hown, k0, hrd, hne, hbw, hw2⟩ := hrel
    have hbs := hbw.size
    have hge := hown.ge
    have hbx : w.heap.size < wr.heap.size := lt_of_cell k0
    have HO := Lib.hid hown
    have HRD := Lib.hid hrd
    have HNE := Lib.hid hne
    clear hown hrd hne
    by_cases hlt : k < os.length
    · obtain ⟨b, off, rfl, hbl, e0⟩ := (HR2.out.below hbw).int k hlt
      have hob := allB_iff.1 HOB.out os[k] (List.getElem_mem _)
      have hat : os[k] = at0 os k := by rw [at0_nat]; simp [List.getD, List.getElem?_eq_getElem hlt]
      have HSN := Lib.hid (outsOf_snoc (ws := ws) hlt)
      rw [hat] at hob HSN
      obtain ⟨o, ho⟩ : ∃ x, x = at0 os k := ⟨_, rfl⟩
      rw [← ho] at hob HSN e0
      obtain ⟨o0, o1⟩ := hob
      clear ho hat
      obtain ⟨n, rfl⟩ := Int.eq_ofNat_of_zero_le o0
      obtain ⟨b2, off2, rfl, hbl2, e2⟩ := HRD.out.int n (by have := HWL.out; omega)
      have hli : (k : Int) < (os.length : Int) := by omega
      have hln : (n : Int) < (ws.length : Int) := by have := HWL.out; omega
      have hbg : b2 ≠ g := HNE.out _ rfl
      obtain ⟨y, hy⟩ : ∃ x, x = at0 ws n := ⟨_, rfl⟩
      rw [← hy] at e2 HSN
      clear hy
      go_wp2_with (refine wpList_push _ rfl _ _ rfl (w.heap.size + 1) g k cp (outsOf ws (os.take k)) y wr.heap.size 1 (by rfl) (by rfl) (HO.out.later (by (repeat (first | with_reducible exact Kp.refl _ _ | (with_reducible refine Kp.rng ?_ (by assumption) ?_) | (with_reducible refine Kp.below ?_ (by assumption)) | (with_reducible refine Kp.grown ?_ (by assumption) ?_) | (with_reducible refine Kp.alloc ?_ _) | (with_reducible refine Kp.drew ?_) | (with_reducible refine Kp.drewN ?_ _) | (with_reducible refine Kp.setCell ?_ _ ?_))) <;> (first | omega | (simp; done) | (simp; omega)))) (by go_simp) (by omega) (by first | omega | (simp; done) | (simp; omega)) ?_; intro g5 c5 w5 ho5 hb5 hg5 hat5; (try simp at hat5); have z5 := hb5.size; (try simp at z5); have y5 := hg5.size; (try simp at y5); have ge5 := ho5.ge; have kk5 := grown_cell hg5 (b := w.heap.size) (o := 1) (x := .slice (some ⟨b, off, none⟩) os.length c2) (by first | (simp; omega) | omega) (by go_simp))
      go_roundw
      case rel =>
        refine ⟨k + 1, g5, c5, by omega, by go_num, rfl, by (rw [HSN.out]; exact ho5), kk5, HRD.out.keep fun b off e => ?_, fun a ha => ?_, (by (repeat (first | with_reducible exact Below.refl _ _ | (with_reducible refine bel_next ?_ ?_ (by assumption)) | (with_reducible refine Below.alloc ?_ ?_ _) | (with_reducible refine Below.drew ?_) | (with_reducible refine below_drewN ?_ _) | (with_reducible refine Below.setCell ?_ ?_ _))) <;> (first | omega | (simp; done) | (simp; omega))), by omega⟩
        · have hbg' := HNE.out _ e
          simp at hbg'
          exact (by (repeat (first | with_reducible exact Kp.refl _ _ | (with_reducible refine Kp.rng ?_ (by assumption) ?_) | (with_reducible refine Kp.below ?_ (by assumption)) | (with_reducible refine Kp.grown ?_ (by assumption) ?_) | (with_reducible refine Kp.alloc ?_ _) | (with_reducible refine Kp.drew ?_) | (with_reducible refine Kp.drewN ?_ _) | (with_reducible refine Kp.setCell ?_ _ ?_))) <;> (first | omega | (simp; done) | (simp; omega)))
        · have h1 := HNE.out a ha
          have h2 := HI2.out a ha
          omega
      case measure => simp [intOf]; omega
    · have HK : Hid (outsOf ws (os.take k) = outsOf ws os) := by show _ = _; rw [List.take_of_length_le (by omega)]
      have hown := HO.out
      rw [HK.out] at hown
      have HKL : Hid ((outsOf ws os).length = k) := by show _ = _; rw [outsOf_len]; omega
      have HO' := Lib.hid hown
      clear hown
      go_wp2_with fail
      go_ret2
      exact ⟨some ⟨g, 0, none⟩, cp, by (rw [HKL.out]; rfl), by rw [HKL.out]; exact HO'.out.lo (by omega), hbw⟩

end Go.Proofs.Ytfpblgbokmpmjaa

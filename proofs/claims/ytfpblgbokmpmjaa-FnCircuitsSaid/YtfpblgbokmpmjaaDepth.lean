/- AndDepth, both. -/
import Derived.Test.YtfpblgbokmpmjaaEval
namespace Go.Proofs.Ytfpblgbokmpmjaa
open Go.RowKit
set_option linter.unusedVariables false
set_option linter.unusedSimpArgs false

set_option maxRecDepth 20000 in
set_option maxHeartbeats 8000000 in
theorem sAndDepth_any (gs : List Gt) (os : List Int) (a1 a2 : Option Addr) (c1 c2 : Nat) (w : World) (hm : gs.length ≤ 1048576) (hm2 : os.length ≤ 1048576) (hr : RdC w a1 (gtCells gs)) (hr2 : RdC w a2 (I64 os)) :
    Calls Try.prog 24 #[.agg #[.slice a1 gs.length c1, .slice a2 os.length c2]] w fun e w' => e = .returned (.int .i64 (andDepth gs os)) ∧ Below w.heap.size w w' := by
  have HR := Lib.hid hr
  have HR2 := Lib.hid hr2
  clear hr hr2
  cases hc : circOk gs os
  · have HC := Lib.hid hc
    have HF : Hid (andDepth gs os = -1) := by show _ = _; simp [andDepth, hc]
    rw [HF.out]
    clear hc
    go_enter Try.func24, Try.ntmps24
    go_wp2_with (go_at_call 22; refine (sCircuitOk_any gs os _ _ _ _ _ hm hm2 (HR.out.below (by (repeat (first | with_reducible exact Below.refl _ _ | (with_reducible refine bel_next ?_ ?_ (by assumption)) | (with_reducible refine Below.alloc ?_ ?_ _) | (with_reducible refine Below.drew ?_) | (with_reducible refine below_drewN ?_ _) | (with_reducible refine Below.setCell ?_ ?_ _))) <;> (first | omega | (simp; done) | (simp; omega)))) (HR2.out.below (by (repeat (first | with_reducible exact Below.refl _ _ | (with_reducible refine bel_next ?_ ?_ (by assumption)) | (with_reducible refine Below.alloc ?_ ?_ _) | (with_reducible refine Below.drew ?_) | (with_reducible refine below_drewN ?_ _) | (with_reducible refine Below.setCell ?_ ?_ _))) <;> (first | omega | (simp; done) | (simp; omega))))).mono ?_; rintro e w1 ⟨rfl, hb1⟩; rw [HC.out]; have z1 := hb1.size; (try simp at z1); have y1 : w.heap.size < w1.heap.size := (by omega); have k1_0 := bel_keeps hb1 (b := w.heap.size) (o := 0) (v := .slice a1 gs.length c1) (by go_simp); have k1_1 := bel_keeps hb1 (b := w.heap.size) (o := 1) (v := .slice a2 os.length c2) (by go_simp))
    go_ret
    exact ⟨rfl, (by (repeat (first | with_reducible exact Below.refl _ _ | (with_reducible refine bel_next ?_ ?_ (by assumption)) | (with_reducible refine Below.alloc ?_ ?_ _) | (with_reducible refine Below.drew ?_) | (with_reducible refine below_drewN ?_ _) | (with_reducible refine Below.setCell ?_ ?_ _))) <;> (first | omega | (simp; done) | (simp; omega)))⟩
  have HC := Lib.hid hc
  have HF : Hid (andDepth gs os = depM gs) := by show _ = _; simp [andDepth, hc]
  rw [HF.out]
  obtain ⟨hok, hob, h6⟩ := circ_parts hc
  have HOK := Lib.hid hok
  clear hc hok hob HF
  go_enter Try.func24, Try.ntmps24
  go_wp2_with (go_at_call 22; refine (sCircuitOk_any gs os _ _ _ _ _ hm hm2 (HR.out.below (by (repeat (first | with_reducible exact Below.refl _ _ | (with_reducible refine bel_next ?_ ?_ (by assumption)) | (with_reducible refine Below.alloc ?_ ?_ _) | (with_reducible refine Below.drew ?_) | (with_reducible refine below_drewN ?_ _) | (with_reducible refine Below.setCell ?_ ?_ _))) <;> (first | omega | (simp; done) | (simp; omega)))) (HR2.out.below (by (repeat (first | with_reducible exact Below.refl _ _ | (with_reducible refine bel_next ?_ ?_ (by assumption)) | (with_reducible refine Below.alloc ?_ ?_ _) | (with_reducible refine Below.drew ?_) | (with_reducible refine below_drewN ?_ _) | (with_reducible refine Below.setCell ?_ ?_ _))) <;> (first | omega | (simp; done) | (simp; omega))))).mono ?_; rintro e w1 ⟨rfl, hb1⟩; rw [HC.out]; have z1 := hb1.size; (try simp at z1); have y1 : w.heap.size < w1.heap.size := (by omega); have k1_0 := bel_keeps hb1 (b := w.heap.size) (o := 0) (v := .slice a1 gs.length c1) (by go_simp); have k1_1 := bel_keeps hb1 (b := w.heap.size) (o := 1) (v := .slice a2 os.length c2) (by go_simp))
  go_loopw [3, 4, 5] (fun v q i wr => ∃ (k g cp : Nat) (mo : Int), k ≤ gs.length ∧ i = .int .i64 k ∧ v = .slice (some ⟨g, 0, none⟩) k cp ∧ q = .int .i64 mo ∧ mo = depM (gs.take k) ∧ Own wr (w.heap.size + 1) 3 1 (some ⟨g, 0, none⟩) k cp (I64 (depL (gs.take k))) ∧ wr.cell? ⟨w.heap.size, 0, none⟩ = some (.slice a1 gs.length c1) ∧ Below w.heap.size w wr) (fun _ _ i _ => gs.length - (intOf i).toNat)
  case atStart => exact ⟨0, w.heap.size + 1, 0, 0, Nat.zero_le _, rfl, rfl, rfl, rfl, (own_last (w.alloc (.cells #[.slice a1 gs.length c1, .slice a2 os.length c2] 30)) 3 1 (w.heap.size + 1) (w.heap.size + 1) (by simp) (Nat.le_refl _)).later (by (repeat (first | with_reducible exact Kp.refl _ _ | (with_reducible refine Kp.rng ?_ (by assumption) ?_) | (with_reducible refine Kp.below ?_ (by assumption)) | (with_reducible refine Kp.grown ?_ (by assumption) ?_) | (with_reducible refine Kp.alloc ?_ _) | (with_reducible refine Kp.drew ?_) | (with_reducible refine Kp.drewN ?_ _) | (with_reducible refine Kp.setCell ?_ _ ?_))) <;> (first | omega | (simp; done) | (simp; omega))), (by first | (go_simp; done) | assumption), (by (repeat (first | with_reducible exact Below.refl _ _ | (with_reducible refine bel_next ?_ ?_ (by assumption)) | (with_reducible refine Below.alloc ?_ ?_ _) | (with_reducible refine Below.drew ?_) | (with_reducible refine below_drewN ?_ _) | (with_reducible refine Below.setCell ?_ ?_ _))) <;> (first | omega | (simp; done) | (simp; omega)))⟩
  case round =>
    obtain ⟨k, g, cp, mo, hk, rfl, rfl, rfl, hmo, hown, k0, hbw⟩ := hrel
    have hbs := hbw.size
    have hge := hown.ge
    have hbx : w.heap.size < wr.heap.size := lt_of_cell k0
    have HMO := Lib.hid hmo
    have hmb := depM_b (gs.take k)
    rw [← hmo, List.length_take, Nat.min_eq_left hk] at hmb
    obtain ⟨mo0, mo1⟩ := hmb
    clear hmo
    by_cases hlt : k < gs.length
    · obtain ⟨b, off, gk, ga, gb, rfl, hbl, hx, d0, d1, d2⟩ := (HR.out.below hbw).gt k hlt
      have hg := gate_cases (show gateOk gk ga gb k = true from gtsOk_at HOK.out hx)
      have HSN := Lib.hid (depL_snoc hx)
      have HMN := Lib.hid (depM_snoc hx)
      have hwl : (depL (gs.take k)).length = k := by rw [depL_len, List.length_take]; omega
      have hwb := depL_b (gs.take k)
      rw [List.length_take, Nat.min_eq_left hk] at hwb
      obtain ⟨ws, hws⟩ : ∃ x, x = depL (gs.take k) := ⟨_, rfl⟩
      rw [← hws] at hown hwl hwb
      have HW := Lib.hid hws
      have HO := Lib.hid hown
      have HWL := Lib.hid hwl
      have HWB := Lib.hid hwb
      have hli : (k : Int) < (gs.length : Int) := by omega
      clear hws hown hwl hwb hx
      rcases hg with ⟨rfl, rfl, q1, q2⟩ | ⟨rfl, rfl, q1, q2⟩ | ⟨rfl, q1, q2, q3, q4⟩ | ⟨rfl, q1, q2, q3, q4⟩ | ⟨rfl, rfl, q1, q2⟩
      · obtain ⟨n, rfl⟩ := Int.eq_ofNat_of_zero_le q1
        have HV : Hid (dval ws ⟨1, n, 0⟩ = 0) := by show _ = _; simp [dval]
        have hvm : ¬ (0 : Int) > mo := by omega
        go_wp2_with (refine wpList_push _ rfl _ _ rfl (w.heap.size + 1) g k cp ws 0 (wr.heap.size + 1) 1 (by rfl) (by rfl) (HO.out.later (by (repeat (first | with_reducible exact Kp.refl _ _ | (with_reducible refine Kp.rng ?_ (by assumption) ?_) | (with_reducible refine Kp.below ?_ (by assumption)) | (with_reducible refine Kp.grown ?_ (by assumption) ?_) | (with_reducible refine Kp.alloc ?_ _) | (with_reducible refine Kp.drew ?_) | (with_reducible refine Kp.drewN ?_ _) | (with_reducible refine Kp.setCell ?_ _ ?_))) <;> (first | omega | (simp; done) | (simp; omega)))) (by go_simp) (by omega) (by first | omega | (simp; done) | (simp; omega)) ?_; intro g5 c5 w5 ho5 hb5 hg5 hat5; (try simp at hat5); have z5 := hb5.size; (try simp at z5); have y5 := hg5.size; (try simp at y5); have ge5 := ho5.ge; have kk5 := grown_cell hg5 (b := w.heap.size) (o := 0) (x := .slice (some ⟨b, off, none⟩) gs.length c1) (by first | (simp; omega) | omega) (by go_simp))
        go_roundw
        case rel =>
          have hv := HV.out
          have hv2 := hv.trans (show _ = 0 by omega)
          exact ⟨k + 1, g5, c5, _, by omega, by go_num, rfl, rfl, by (rw [HMN.out, ← HW.out, ← HMO.out, hv2]; omega), by (rw [HSN.out, ← HW.out, hv2]; exact ho5), kk5, (by (repeat (first | with_reducible exact Below.refl _ _ | (with_reducible refine bel_next ?_ ?_ (by assumption)) | (with_reducible refine Below.alloc ?_ ?_ _) | (with_reducible refine Below.drew ?_) | (with_reducible refine below_drewN ?_ _) | (with_reducible refine Below.setCell ?_ ?_ _))) <;> (first | omega | (simp; done) | (simp; omega)))⟩
        case measure => simp [intOf]; omega
      · obtain ⟨n, rfl⟩ := Int.eq_ofNat_of_zero_le q1
        have HV : Hid (dval ws ⟨2, n, 0⟩ = 0) := by show _ = _; simp [dval]
        have hvm : ¬ (0 : Int) > mo := by omega
        go_wp2_with (refine wpList_push _ rfl _ _ rfl (w.heap.size + 1) g k cp ws 0 (wr.heap.size + 1) 1 (by rfl) (by rfl) (HO.out.later (by (repeat (first | with_reducible exact Kp.refl _ _ | (with_reducible refine Kp.rng ?_ (by assumption) ?_) | (with_reducible refine Kp.below ?_ (by assumption)) | (with_reducible refine Kp.grown ?_ (by assumption) ?_) | (with_reducible refine Kp.alloc ?_ _) | (with_reducible refine Kp.drew ?_) | (with_reducible refine Kp.drewN ?_ _) | (with_reducible refine Kp.setCell ?_ _ ?_))) <;> (first | omega | (simp; done) | (simp; omega)))) (by go_simp) (by omega) (by first | omega | (simp; done) | (simp; omega)) ?_; intro g5 c5 w5 ho5 hb5 hg5 hat5; (try simp at hat5); have z5 := hb5.size; (try simp at z5); have y5 := hg5.size; (try simp at y5); have ge5 := ho5.ge; have kk5 := grown_cell hg5 (b := w.heap.size) (o := 0) (x := .slice (some ⟨b, off, none⟩) gs.length c1) (by first | (simp; omega) | omega) (by go_simp))
        go_roundw
        case rel =>
          have hv := HV.out
          have hv2 := hv.trans (show _ = 0 by omega)
          exact ⟨k + 1, g5, c5, _, by omega, by go_num, rfl, rfl, by (rw [HMN.out, ← HW.out, ← HMO.out, hv2]; omega), by (rw [HSN.out, ← HW.out, hv2]; exact ho5), kk5, (by (repeat (first | with_reducible exact Below.refl _ _ | (with_reducible refine bel_next ?_ ?_ (by assumption)) | (with_reducible refine Below.alloc ?_ ?_ _) | (with_reducible refine Below.drew ?_) | (with_reducible refine below_drewN ?_ _) | (with_reducible refine Below.setCell ?_ ?_ _))) <;> (first | omega | (simp; done) | (simp; omega)))⟩
        case measure => simp [intOf]; omega
      · obtain ⟨n, rfl⟩ := Int.eq_ofNat_of_zero_le q1
        obtain ⟨m, rfl⟩ := Int.eq_ofNat_of_zero_le q3
        have e1 := HO.out.int n (by have := HWL.out; omega)
        have e2 := HO.out.int m (by have := HWL.out; omega)
        have b1 := at0_b (i := (n : Int)) HWB.out (by omega) (by omega)
        have b2 := at0_b (i := (m : Int)) HWB.out (by omega) (by omega)
        have HV : Hid (dval ws ⟨3, n, m⟩ = max (at0 ws n) (at0 ws m)) := by show _ = _; simp [dval]
        obtain ⟨x, hx⟩ : ∃ x, x = at0 ws n := ⟨_, rfl⟩
        obtain ⟨y, hy⟩ : ∃ x, x = at0 ws m := ⟨_, rfl⟩
        rw [← hx] at e1 HV b1
        rw [← hy] at e2 HV b2
        obtain ⟨x0, x1⟩ := b1
        obtain ⟨y0, y1⟩ := b2
        clear hx hy
        by_cases hxy : y > x
        case pos =>
          by_cases hvm : (y) > mo
          case pos =>
            go_wp2_with (refine wpList_push _ rfl _ _ rfl (w.heap.size + 1) g k cp ws (y) (wr.heap.size + 1) 1 (by rfl) (by rfl) (HO.out.later (by (repeat (first | with_reducible exact Kp.refl _ _ | (with_reducible refine Kp.rng ?_ (by assumption) ?_) | (with_reducible refine Kp.below ?_ (by assumption)) | (with_reducible refine Kp.grown ?_ (by assumption) ?_) | (with_reducible refine Kp.alloc ?_ _) | (with_reducible refine Kp.drew ?_) | (with_reducible refine Kp.drewN ?_ _) | (with_reducible refine Kp.setCell ?_ _ ?_))) <;> (first | omega | (simp; done) | (simp; omega)))) (by go_simp) (by omega) (by first | omega | (simp; done) | (simp; omega)) ?_; intro g5 c5 w5 ho5 hb5 hg5 hat5; (try simp at hat5); have z5 := hb5.size; (try simp at z5); have y5 := hg5.size; (try simp at y5); have ge5 := ho5.ge; have kk5 := grown_cell hg5 (b := w.heap.size) (o := 0) (x := .slice (some ⟨b, off, none⟩) gs.length c1) (by first | (simp; omega) | omega) (by go_simp))
            go_quiet (fail)
            go_wp2_with (refine wpList_push _ rfl _ _ rfl (w.heap.size + 1) g k cp ws (y) (wr.heap.size + 1) 1 (by rfl) (by rfl) (HO.out.later (by (repeat (first | with_reducible exact Kp.refl _ _ | (with_reducible refine Kp.rng ?_ (by assumption) ?_) | (with_reducible refine Kp.below ?_ (by assumption)) | (with_reducible refine Kp.grown ?_ (by assumption) ?_) | (with_reducible refine Kp.alloc ?_ _) | (with_reducible refine Kp.drew ?_) | (with_reducible refine Kp.drewN ?_ _) | (with_reducible refine Kp.setCell ?_ _ ?_))) <;> (first | omega | (simp; done) | (simp; omega)))) (by go_simp) (by omega) (by first | omega | (simp; done) | (simp; omega)) ?_; intro g5 c5 w5 ho5 hb5 hg5 hat5; (try simp at hat5); have z5 := hb5.size; (try simp at z5); have y5 := hg5.size; (try simp at y5); have ge5 := ho5.ge; have kk5 := grown_cell hg5 (b := w.heap.size) (o := 0) (x := .slice (some ⟨b, off, none⟩) gs.length c1) (by first | (simp; omega) | omega) (by go_simp))
            go_roundw
            case rel =>
              have hv := HV.out
              have hv2 := hv.trans (show _ = (y) by omega)
              exact ⟨k + 1, g5, c5, _, by omega, by go_num, rfl, rfl, by (rw [HMN.out, ← HW.out, ← HMO.out, hv2]; omega), by (rw [HSN.out, ← HW.out, hv2]; exact ho5), kk5, (by (repeat (first | with_reducible exact Below.refl _ _ | (with_reducible refine bel_next ?_ ?_ (by assumption)) | (with_reducible refine Below.alloc ?_ ?_ _) | (with_reducible refine Below.drew ?_) | (with_reducible refine below_drewN ?_ _) | (with_reducible refine Below.setCell ?_ ?_ _))) <;> (first | omega | (simp; done) | (simp; omega)))⟩
            case measure => simp [intOf]; omega
          case neg =>
            go_wp2_with (refine wpList_push _ rfl _ _ rfl (w.heap.size + 1) g k cp ws (y) (wr.heap.size + 1) 1 (by rfl) (by rfl) (HO.out.later (by (repeat (first | with_reducible exact Kp.refl _ _ | (with_reducible refine Kp.rng ?_ (by assumption) ?_) | (with_reducible refine Kp.below ?_ (by assumption)) | (with_reducible refine Kp.grown ?_ (by assumption) ?_) | (with_reducible refine Kp.alloc ?_ _) | (with_reducible refine Kp.drew ?_) | (with_reducible refine Kp.drewN ?_ _) | (with_reducible refine Kp.setCell ?_ _ ?_))) <;> (first | omega | (simp; done) | (simp; omega)))) (by go_simp) (by omega) (by first | omega | (simp; done) | (simp; omega)) ?_; intro g5 c5 w5 ho5 hb5 hg5 hat5; (try simp at hat5); have z5 := hb5.size; (try simp at z5); have y5 := hg5.size; (try simp at y5); have ge5 := ho5.ge; have kk5 := grown_cell hg5 (b := w.heap.size) (o := 0) (x := .slice (some ⟨b, off, none⟩) gs.length c1) (by first | (simp; omega) | omega) (by go_simp))
            go_quiet (fail)
            go_wp2_with (refine wpList_push _ rfl _ _ rfl (w.heap.size + 1) g k cp ws (y) (wr.heap.size + 1) 1 (by rfl) (by rfl) (HO.out.later (by (repeat (first | with_reducible exact Kp.refl _ _ | (with_reducible refine Kp.rng ?_ (by assumption) ?_) | (with_reducible refine Kp.below ?_ (by assumption)) | (with_reducible refine Kp.grown ?_ (by assumption) ?_) | (with_reducible refine Kp.alloc ?_ _) | (with_reducible refine Kp.drew ?_) | (with_reducible refine Kp.drewN ?_ _) | (with_reducible refine Kp.setCell ?_ _ ?_))) <;> (first | omega | (simp; done) | (simp; omega)))) (by go_simp) (by omega) (by first | omega | (simp; done) | (simp; omega)) ?_; intro g5 c5 w5 ho5 hb5 hg5 hat5; (try simp at hat5); have z5 := hb5.size; (try simp at z5); have y5 := hg5.size; (try simp at y5); have ge5 := ho5.ge; have kk5 := grown_cell hg5 (b := w.heap.size) (o := 0) (x := .slice (some ⟨b, off, none⟩) gs.length c1) (by first | (simp; omega) | omega) (by go_simp))
            go_roundw
            case rel =>
              have hv := HV.out
              have hv2 := hv.trans (show _ = (y) by omega)
              exact ⟨k + 1, g5, c5, _, by omega, by go_num, rfl, rfl, by (rw [HMN.out, ← HW.out, ← HMO.out, hv2]; omega), by (rw [HSN.out, ← HW.out, hv2]; exact ho5), kk5, (by (repeat (first | with_reducible exact Below.refl _ _ | (with_reducible refine bel_next ?_ ?_ (by assumption)) | (with_reducible refine Below.alloc ?_ ?_ _) | (with_reducible refine Below.drew ?_) | (with_reducible refine below_drewN ?_ _) | (with_reducible refine Below.setCell ?_ ?_ _))) <;> (first | omega | (simp; done) | (simp; omega)))⟩
            case measure => simp [intOf]; omega
        case neg =>
          by_cases hvm : (x) > mo
          case pos =>
            go_wp2_with (refine wpList_push _ rfl _ _ rfl (w.heap.size + 1) g k cp ws (x) (wr.heap.size + 1) 1 (by rfl) (by rfl) (HO.out.later (by (repeat (first | with_reducible exact Kp.refl _ _ | (with_reducible refine Kp.rng ?_ (by assumption) ?_) | (with_reducible refine Kp.below ?_ (by assumption)) | (with_reducible refine Kp.grown ?_ (by assumption) ?_) | (with_reducible refine Kp.alloc ?_ _) | (with_reducible refine Kp.drew ?_) | (with_reducible refine Kp.drewN ?_ _) | (with_reducible refine Kp.setCell ?_ _ ?_))) <;> (first | omega | (simp; done) | (simp; omega)))) (by go_simp) (by omega) (by first | omega | (simp; done) | (simp; omega)) ?_; intro g5 c5 w5 ho5 hb5 hg5 hat5; (try simp at hat5); have z5 := hb5.size; (try simp at z5); have y5 := hg5.size; (try simp at y5); have ge5 := ho5.ge; have kk5 := grown_cell hg5 (b := w.heap.size) (o := 0) (x := .slice (some ⟨b, off, none⟩) gs.length c1) (by first | (simp; omega) | omega) (by go_simp))
            go_quiet (fail)
            go_wp2_with (refine wpList_push _ rfl _ _ rfl (w.heap.size + 1) g k cp ws (x) (wr.heap.size + 1) 1 (by rfl) (by rfl) (HO.out.later (by (repeat (first | with_reducible exact Kp.refl _ _ | (with_reducible refine Kp.rng ?_ (by assumption) ?_) | (with_reducible refine Kp.below ?_ (by assumption)) | (with_reducible refine Kp.grown ?_ (by assumption) ?_) | (with_reducible refine Kp.alloc ?_ _) | (with_reducible refine Kp.drew ?_) | (with_reducible refine Kp.drewN ?_ _) | (with_reducible refine Kp.setCell ?_ _ ?_))) <;> (first | omega | (simp; done) | (simp; omega)))) (by go_simp) (by omega) (by first | omega | (simp; done) | (simp; omega)) ?_; intro g5 c5 w5 ho5 hb5 hg5 hat5; (try simp at hat5); have z5 := hb5.size; (try simp at z5); have y5 := hg5.size; (try simp at y5); have ge5 := ho5.ge; have kk5 := grown_cell hg5 (b := w.heap.size) (o := 0) (x := .slice (some ⟨b, off, none⟩) gs.length c1) (by first | (simp; omega) | omega) (by go_simp))
            go_roundw
            case rel =>
              have hv := HV.out
              have hv2 := hv.trans (show _ = (x) by omega)
              exact ⟨k + 1, g5, c5, _, by omega, by go_num, rfl, rfl, by (rw [HMN.out, ← HW.out, ← HMO.out, hv2]; omega), by (rw [HSN.out, ← HW.out, hv2]; exact ho5), kk5, (by (repeat (first | with_reducible exact Below.refl _ _ | (with_reducible refine bel_next ?_ ?_ (by assumption)) | (with_reducible refine Below.alloc ?_ ?_ _) | (with_reducible refine Below.drew ?_) | (with_reducible refine below_drewN ?_ _) | (with_reducible refine Below.setCell ?_ ?_ _))) <;> (first | omega | (simp; done) | (simp; omega)))⟩
            case measure => simp [intOf]; omega
          case neg =>
            go_wp2_with (refine wpList_push _ rfl _ _ rfl (w.heap.size + 1) g k cp ws (x) (wr.heap.size + 1) 1 (by rfl) (by rfl) (HO.out.later (by (repeat (first | with_reducible exact Kp.refl _ _ | (with_reducible refine Kp.rng ?_ (by assumption) ?_) | (with_reducible refine Kp.below ?_ (by assumption)) | (with_reducible refine Kp.grown ?_ (by assumption) ?_) | (with_reducible refine Kp.alloc ?_ _) | (with_reducible refine Kp.drew ?_) | (with_reducible refine Kp.drewN ?_ _) | (with_reducible refine Kp.setCell ?_ _ ?_))) <;> (first | omega | (simp; done) | (simp; omega)))) (by go_simp) (by omega) (by first | omega | (simp; done) | (simp; omega)) ?_; intro g5 c5 w5 ho5 hb5 hg5 hat5; (try simp at hat5); have z5 := hb5.size; (try simp at z5); have y5 := hg5.size; (try simp at y5); have ge5 := ho5.ge; have kk5 := grown_cell hg5 (b := w.heap.size) (o := 0) (x := .slice (some ⟨b, off, none⟩) gs.length c1) (by first | (simp; omega) | omega) (by go_simp))
            go_quiet (fail)
            go_wp2_with (refine wpList_push _ rfl _ _ rfl (w.heap.size + 1) g k cp ws (x) (wr.heap.size + 1) 1 (by rfl) (by rfl) (HO.out.later (by (repeat (first | with_reducible exact Kp.refl _ _ | (with_reducible refine Kp.rng ?_ (by assumption) ?_) | (with_reducible refine Kp.below ?_ (by assumption)) | (with_reducible refine Kp.grown ?_ (by assumption) ?_) | (with_reducible refine Kp.alloc ?_ _) | (with_reducible refine Kp.drew ?_) | (with_reducible refine Kp.drewN ?_ _) | (with_reducible refine Kp.setCell ?_ _ ?_))) <;> (first | omega | (simp; done) | (simp; omega)))) (by go_simp) (by omega) (by first | omega | (simp; done) | (simp; omega)) ?_; intro g5 c5 w5 ho5 hb5 hg5 hat5; (try simp at hat5); have z5 := hb5.size; (try simp at z5); have y5 := hg5.size; (try simp at y5); have ge5 := ho5.ge; have kk5 := grown_cell hg5 (b := w.heap.size) (o := 0) (x := .slice (some ⟨b, off, none⟩) gs.length c1) (by first | (simp; omega) | omega) (by go_simp))
            go_roundw
            case rel =>
              have hv := HV.out
              have hv2 := hv.trans (show _ = (x) by omega)
              exact ⟨k + 1, g5, c5, _, by omega, by go_num, rfl, rfl, by (rw [HMN.out, ← HW.out, ← HMO.out, hv2]; omega), by (rw [HSN.out, ← HW.out, hv2]; exact ho5), kk5, (by (repeat (first | with_reducible exact Below.refl _ _ | (with_reducible refine bel_next ?_ ?_ (by assumption)) | (with_reducible refine Below.alloc ?_ ?_ _) | (with_reducible refine Below.drew ?_) | (with_reducible refine below_drewN ?_ _) | (with_reducible refine Below.setCell ?_ ?_ _))) <;> (first | omega | (simp; done) | (simp; omega)))⟩
            case measure => simp [intOf]; omega
      · obtain ⟨n, rfl⟩ := Int.eq_ofNat_of_zero_le q1
        obtain ⟨m, rfl⟩ := Int.eq_ofNat_of_zero_le q3
        have e1 := HO.out.int n (by have := HWL.out; omega)
        have e2 := HO.out.int m (by have := HWL.out; omega)
        have b1 := at0_b (i := (n : Int)) HWB.out (by omega) (by omega)
        have b2 := at0_b (i := (m : Int)) HWB.out (by omega) (by omega)
        have HV : Hid (dval ws ⟨4, n, m⟩ = max (at0 ws n) (at0 ws m) + 1) := by show _ = _; simp [dval]
        obtain ⟨x, hx⟩ : ∃ x, x = at0 ws n := ⟨_, rfl⟩
        obtain ⟨y, hy⟩ : ∃ x, x = at0 ws m := ⟨_, rfl⟩
        rw [← hx] at e1 HV b1
        rw [← hy] at e2 HV b2
        obtain ⟨x0, x1⟩ := b1
        obtain ⟨y0, y1⟩ := b2
        clear hx hy
        by_cases hxy : y > x
        case pos =>
          by_cases hvm : (1 + y) > mo
          case pos =>
            go_wp2_with (refine wpList_push _ rfl _ _ rfl (w.heap.size + 1) g k cp ws (1 + y) (wr.heap.size + 1) 1 (by rfl) (by rfl) (HO.out.later (by (repeat (first | with_reducible exact Kp.refl _ _ | (with_reducible refine Kp.rng ?_ (by assumption) ?_) | (with_reducible refine Kp.below ?_ (by assumption)) | (with_reducible refine Kp.grown ?_ (by assumption) ?_) | (with_reducible refine Kp.alloc ?_ _) | (with_reducible refine Kp.drew ?_) | (with_reducible refine Kp.drewN ?_ _) | (with_reducible refine Kp.setCell ?_ _ ?_))) <;> (first | omega | (simp; done) | (simp; omega)))) (by go_simp) (by omega) (by first | omega | (simp; done) | (simp; omega)) ?_; intro g5 c5 w5 ho5 hb5 hg5 hat5; (try simp at hat5); have z5 := hb5.size; (try simp at z5); have y5 := hg5.size; (try simp at y5); have ge5 := ho5.ge; have kk5 := grown_cell hg5 (b := w.heap.size) (o := 0) (x := .slice (some ⟨b, off, none⟩) gs.length c1) (by first | (simp; omega) | omega) (by go_simp))
            go_quiet (fail)
            go_wp2_with (refine wpList_push _ rfl _ _ rfl (w.heap.size + 1) g k cp ws (1 + y) (wr.heap.size + 1) 1 (by rfl) (by rfl) (HO.out.later (by (repeat (first | with_reducible exact Kp.refl _ _ | (with_reducible refine Kp.rng ?_ (by assumption) ?_) | (with_reducible refine Kp.below ?_ (by assumption)) | (with_reducible refine Kp.grown ?_ (by assumption) ?_) | (with_reducible refine Kp.alloc ?_ _) | (with_reducible refine Kp.drew ?_) | (with_reducible refine Kp.drewN ?_ _) | (with_reducible refine Kp.setCell ?_ _ ?_))) <;> (first | omega | (simp; done) | (simp; omega)))) (by go_simp) (by omega) (by first | omega | (simp; done) | (simp; omega)) ?_; intro g5 c5 w5 ho5 hb5 hg5 hat5; (try simp at hat5); have z5 := hb5.size; (try simp at z5); have y5 := hg5.size; (try simp at y5); have ge5 := ho5.ge; have kk5 := grown_cell hg5 (b := w.heap.size) (o := 0) (x := .slice (some ⟨b, off, none⟩) gs.length c1) (by first | (simp; omega) | omega) (by go_simp))
            go_roundw
            case rel =>
              have hv := HV.out
              have hv2 := hv.trans (show _ = (1 + y) by omega)
              exact ⟨k + 1, g5, c5, _, by omega, by go_num, rfl, rfl, by (rw [HMN.out, ← HW.out, ← HMO.out, hv2]; omega), by (rw [HSN.out, ← HW.out, hv2]; exact ho5), kk5, (by (repeat (first | with_reducible exact Below.refl _ _ | (with_reducible refine bel_next ?_ ?_ (by assumption)) | (with_reducible refine Below.alloc ?_ ?_ _) | (with_reducible refine Below.drew ?_) | (with_reducible refine below_drewN ?_ _) | (with_reducible refine Below.setCell ?_ ?_ _))) <;> (first | omega | (simp; done) | (simp; omega)))⟩
            case measure => simp [intOf]; omega
          case neg =>
            go_wp2_with (refine wpList_push _ rfl _ _ rfl (w.heap.size + 1) g k cp ws (1 + y) (wr.heap.size + 1) 1 (by rfl) (by rfl) (HO.out.later (by (repeat (first | with_reducible exact Kp.refl _ _ | (with_reducible refine Kp.rng ?_ (by assumption) ?_) | (with_reducible refine Kp.below ?_ (by assumption)) | (with_reducible refine Kp.grown ?_ (by assumption) ?_) | (with_reducible refine Kp.alloc ?_ _) | (with_reducible refine Kp.drew ?_) | (with_reducible refine Kp.drewN ?_ _) | (with_reducible refine Kp.setCell ?_ _ ?_))) <;> (first | omega | (simp; done) | (simp; omega)))) (by go_simp) (by omega) (by first | omega | (simp; done) | (simp; omega)) ?_; intro g5 c5 w5 ho5 hb5 hg5 hat5; (try simp at hat5); have z5 := hb5.size; (try simp at z5); have y5 := hg5.size; (try simp at y5); have ge5 := ho5.ge; have kk5 := grown_cell hg5 (b := w.heap.size) (o := 0) (x := .slice (some ⟨b, off, none⟩) gs.length c1) (by first | (simp; omega) | omega) (by go_simp))
            go_quiet (fail)
            go_wp2_with (refine wpList_push _ rfl _ _ rfl (w.heap.size + 1) g k cp ws (1 + y) (wr.heap.size + 1) 1 (by rfl) (by rfl) (HO.out.later (by (repeat (first | with_reducible exact Kp.refl _ _ | (with_reducible refine Kp.rng ?_ (by assumption) ?_) | (with_reducible refine Kp.below ?_ (by assumption)) | (with_reducible refine Kp.grown ?_ (by assumption) ?_) | (with_reducible refine Kp.alloc ?_ _) | (with_reducible refine Kp.drew ?_) | (with_reducible refine Kp.drewN ?_ _) | (with_reducible refine Kp.setCell ?_ _ ?_))) <;> (first | omega | (simp; done) | (simp; omega)))) (by go_simp) (by omega) (by first | omega | (simp; done) | (simp; omega)) ?_; intro g5 c5 w5 ho5 hb5 hg5 hat5; (try simp at hat5); have z5 := hb5.size; (try simp at z5); have y5 := hg5.size; (try simp at y5); have ge5 := ho5.ge; have kk5 := grown_cell hg5 (b := w.heap.size) (o := 0) (x := .slice (some ⟨b, off, none⟩) gs.length c1) (by first | (simp; omega) | omega) (by go_simp))
            go_roundw
            case rel =>
              have hv := HV.out
              have hv2 := hv.trans (show _ = (1 + y) by omega)
              exact ⟨k + 1, g5, c5, _, by omega, by go_num, rfl, rfl, by (rw [HMN.out, ← HW.out, ← HMO.out, hv2]; omega), by (rw [HSN.out, ← HW.out, hv2]; exact ho5), kk5, (by (repeat (first | with_reducible exact Below.refl _ _ | (with_reducible refine bel_next ?_ ?_ (by assumption)) | (with_reducible refine Below.alloc ?_ ?_ _) | (with_reducible refine Below.drew ?_) | (with_reducible refine below_drewN ?_ _) | (with_reducible refine Below.setCell ?_ ?_ _))) <;> (first | omega | (simp; done) | (simp; omega)))⟩
            case measure => simp [intOf]; omega
        case neg =>
          by_cases hvm : (1 + x) > mo
          case pos =>
            go_wp2_with (refine wpList_push _ rfl _ _ rfl (w.heap.size + 1) g k cp ws (1 + x) (wr.heap.size + 1) 1 (by rfl) (by rfl) (HO.out.later (by (repeat (first | with_reducible exact Kp.refl _ _ | (with_reducible refine Kp.rng ?_ (by assumption) ?_) | (with_reducible refine Kp.below ?_ (by assumption)) | (with_reducible refine Kp.grown ?_ (by assumption) ?_) | (with_reducible refine Kp.alloc ?_ _) | (with_reducible refine Kp.drew ?_) | (with_reducible refine Kp.drewN ?_ _) | (with_reducible refine Kp.setCell ?_ _ ?_))) <;> (first | omega | (simp; done) | (simp; omega)))) (by go_simp) (by omega) (by first | omega | (simp; done) | (simp; omega)) ?_; intro g5 c5 w5 ho5 hb5 hg5 hat5; (try simp at hat5); have z5 := hb5.size; (try simp at z5); have y5 := hg5.size; (try simp at y5); have ge5 := ho5.ge; have kk5 := grown_cell hg5 (b := w.heap.size) (o := 0) (x := .slice (some ⟨b, off, none⟩) gs.length c1) (by first | (simp; omega) | omega) (by go_simp))
            go_quiet (fail)
            go_wp2_with (refine wpList_push _ rfl _ _ rfl (w.heap.size + 1) g k cp ws (1 + x) (wr.heap.size + 1) 1 (by rfl) (by rfl) (HO.out.later (by (repeat (first | with_reducible exact Kp.refl _ _ | (with_reducible refine Kp.rng ?_ (by assumption) ?_) | (with_reducible refine Kp.below ?_ (by assumption)) | (with_reducible refine Kp.grown ?_ (by assumption) ?_) | (with_reducible refine Kp.alloc ?_ _) | (with_reducible refine Kp.drew ?_) | (with_reducible refine Kp.drewN ?_ _) | (with_reducible refine Kp.setCell ?_ _ ?_))) <;> (first | omega | (simp; done) | (simp; omega)))) (by go_simp) (by omega) (by first | omega | (simp; done) | (simp; omega)) ?_; intro g5 c5 w5 ho5 hb5 hg5 hat5; (try simp at hat5); have z5 := hb5.size; (try simp at z5); have y5 := hg5.size; (try simp at y5); have ge5 := ho5.ge; have kk5 := grown_cell hg5 (b := w.heap.size) (o := 0) (x := .slice (some ⟨b, off, none⟩) gs.length c1) (by first | (simp; omega) | omega) (by go_simp))
            go_roundw
            case rel =>
              have hv := HV.out
              have hv2 := hv.trans (show _ = (1 + x) by omega)
              exact ⟨k + 1, g5, c5, _, by omega, by go_num, rfl, rfl, by (rw [HMN.out, ← HW.out, ← HMO.out, hv2]; omega), by (rw [HSN.out, ← HW.out, hv2]; exact ho5), kk5, (by (repeat (first | with_reducible exact Below.refl _ _ | (with_reducible refine bel_next ?_ ?_ (by assumption)) | (with_reducible refine Below.alloc ?_ ?_ _) | (with_reducible refine Below.drew ?_) | (with_reducible refine below_drewN ?_ _) | (with_reducible refine Below.setCell ?_ ?_ _))) <;> (first | omega | (simp; done) | (simp; omega)))⟩
            case measure => simp [intOf]; omega
          case neg =>
            go_wp2_with (refine wpList_push _ rfl _ _ rfl (w.heap.size + 1) g k cp ws (1 + x) (wr.heap.size + 1) 1 (by rfl) (by rfl) (HO.out.later (by (repeat (first | with_reducible exact Kp.refl _ _ | (with_reducible refine Kp.rng ?_ (by assumption) ?_) | (with_reducible refine Kp.below ?_ (by assumption)) | (with_reducible refine Kp.grown ?_ (by assumption) ?_) | (with_reducible refine Kp.alloc ?_ _) | (with_reducible refine Kp.drew ?_) | (with_reducible refine Kp.drewN ?_ _) | (with_reducible refine Kp.setCell ?_ _ ?_))) <;> (first | omega | (simp; done) | (simp; omega)))) (by go_simp) (by omega) (by first | omega | (simp; done) | (simp; omega)) ?_; intro g5 c5 w5 ho5 hb5 hg5 hat5; (try simp at hat5); have z5 := hb5.size; (try simp at z5); have y5 := hg5.size; (try simp at y5); have ge5 := ho5.ge; have kk5 := grown_cell hg5 (b := w.heap.size) (o := 0) (x := .slice (some ⟨b, off, none⟩) gs.length c1) (by first | (simp; omega) | omega) (by go_simp))
            go_quiet (fail)
            go_wp2_with (refine wpList_push _ rfl _ _ rfl (w.heap.size + 1) g k cp ws (1 + x) (wr.heap.size + 1) 1 (by rfl) (by rfl) (HO.out.later (by (repeat (first | with_reducible exact Kp.refl _ _ | (with_reducible refine Kp.rng ?_ (by assumption) ?_) | (with_reducible refine Kp.below ?_ (by assumption)) | (with_reducible refine Kp.grown ?_ (by assumption) ?_) | (with_reducible refine Kp.alloc ?_ _) | (with_reducible refine Kp.drew ?_) | (with_reducible refine Kp.drewN ?_ _) | (with_reducible refine Kp.setCell ?_ _ ?_))) <;> (first | omega | (simp; done) | (simp; omega)))) (by go_simp) (by omega) (by first | omega | (simp; done) | (simp; omega)) ?_; intro g5 c5 w5 ho5 hb5 hg5 hat5; (try simp at hat5); have z5 := hb5.size; (try simp at z5); have y5 := hg5.size; (try simp at y5); have ge5 := ho5.ge; have kk5 := grown_cell hg5 (b := w.heap.size) (o := 0) (x := .slice (some ⟨b, off, none⟩) gs.length c1) (by first | (simp; omega) | omega) (by go_simp))
            go_roundw
            case rel =>
              have hv := HV.out
              have hv2 := hv.trans (show _ = (1 + x) by omega)
              exact ⟨k + 1, g5, c5, _, by omega, by go_num, rfl, rfl, by (rw [HMN.out, ← HW.out, ← HMO.out, hv2]; omega), by (rw [HSN.out, ← HW.out, hv2]; exact ho5), kk5, (by (repeat (first | with_reducible exact Below.refl _ _ | (with_reducible refine bel_next ?_ ?_ (by assumption)) | (with_reducible refine Below.alloc ?_ ?_ _) | (with_reducible refine Below.drew ?_) | (with_reducible refine below_drewN ?_ _) | (with_reducible refine Below.setCell ?_ ?_ _))) <;> (first | omega | (simp; done) | (simp; omega)))⟩
            case measure => simp [intOf]; omega
      · obtain ⟨n, rfl⟩ := Int.eq_ofNat_of_zero_le q1
        have e1 := HO.out.int n (by have := HWL.out; omega)
        have b1 := at0_b (i := (n : Int)) HWB.out (by omega) (by omega)
        have HV : Hid (dval ws ⟨5, n, 0⟩ = at0 ws n) := by show _ = _; simp [dval]
        obtain ⟨x, hx⟩ : ∃ x, x = at0 ws n := ⟨_, rfl⟩
        rw [← hx] at e1 HV b1
        obtain ⟨x0, x1⟩ := b1
        clear hx
        by_cases hvm : x > mo
        case pos =>
          go_wp2_with (refine wpList_push _ rfl _ _ rfl (w.heap.size + 1) g k cp ws x (wr.heap.size + 1) 1 (by rfl) (by rfl) (HO.out.later (by (repeat (first | with_reducible exact Kp.refl _ _ | (with_reducible refine Kp.rng ?_ (by assumption) ?_) | (with_reducible refine Kp.below ?_ (by assumption)) | (with_reducible refine Kp.grown ?_ (by assumption) ?_) | (with_reducible refine Kp.alloc ?_ _) | (with_reducible refine Kp.drew ?_) | (with_reducible refine Kp.drewN ?_ _) | (with_reducible refine Kp.setCell ?_ _ ?_))) <;> (first | omega | (simp; done) | (simp; omega)))) (by go_simp) (by omega) (by first | omega | (simp; done) | (simp; omega)) ?_; intro g5 c5 w5 ho5 hb5 hg5 hat5; (try simp at hat5); have z5 := hb5.size; (try simp at z5); have y5 := hg5.size; (try simp at y5); have ge5 := ho5.ge; have kk5 := grown_cell hg5 (b := w.heap.size) (o := 0) (x := .slice (some ⟨b, off, none⟩) gs.length c1) (by first | (simp; omega) | omega) (by go_simp))
          go_roundw
          case rel =>
            have hv := HV.out
            have hv2 := hv.trans (show _ = x by omega)
            exact ⟨k + 1, g5, c5, _, by omega, by go_num, rfl, rfl, by (rw [HMN.out, ← HW.out, ← HMO.out, hv2]; omega), by (rw [HSN.out, ← HW.out, hv2]; exact ho5), kk5, (by (repeat (first | with_reducible exact Below.refl _ _ | (with_reducible refine bel_next ?_ ?_ (by assumption)) | (with_reducible refine Below.alloc ?_ ?_ _) | (with_reducible refine Below.drew ?_) | (with_reducible refine below_drewN ?_ _) | (with_reducible refine Below.setCell ?_ ?_ _))) <;> (first | omega | (simp; done) | (simp; omega)))⟩
          case measure => simp [intOf]; omega
        case neg =>
          go_wp2_with (refine wpList_push _ rfl _ _ rfl (w.heap.size + 1) g k cp ws x (wr.heap.size + 1) 1 (by rfl) (by rfl) (HO.out.later (by (repeat (first | with_reducible exact Kp.refl _ _ | (with_reducible refine Kp.rng ?_ (by assumption) ?_) | (with_reducible refine Kp.below ?_ (by assumption)) | (with_reducible refine Kp.grown ?_ (by assumption) ?_) | (with_reducible refine Kp.alloc ?_ _) | (with_reducible refine Kp.drew ?_) | (with_reducible refine Kp.drewN ?_ _) | (with_reducible refine Kp.setCell ?_ _ ?_))) <;> (first | omega | (simp; done) | (simp; omega)))) (by go_simp) (by omega) (by first | omega | (simp; done) | (simp; omega)) ?_; intro g5 c5 w5 ho5 hb5 hg5 hat5; (try simp at hat5); have z5 := hb5.size; (try simp at z5); have y5 := hg5.size; (try simp at y5); have ge5 := ho5.ge; have kk5 := grown_cell hg5 (b := w.heap.size) (o := 0) (x := .slice (some ⟨b, off, none⟩) gs.length c1) (by first | (simp; omega) | omega) (by go_simp))
          go_roundw
          case rel =>
            have hv := HV.out
            have hv2 := hv.trans (show _ = x by omega)
            exact ⟨k + 1, g5, c5, _, by omega, by go_num, rfl, rfl, by (rw [HMN.out, ← HW.out, ← HMO.out, hv2]; omega), by (rw [HSN.out, ← HW.out, hv2]; exact ho5), kk5, (by (repeat (first | with_reducible exact Below.refl _ _ | (with_reducible refine bel_next ?_ ?_ (by assumption)) | (with_reducible refine Below.alloc ?_ ?_ _) | (with_reducible refine Below.drew ?_) | (with_reducible refine below_drewN ?_ _) | (with_reducible refine Below.setCell ?_ ?_ _))) <;> (first | omega | (simp; done) | (simp; omega)))⟩
          case measure => simp [intOf]; omega
    · have HK : Hid (mo = depM gs) := by
        show _ = _
        have := HMO.out
        rwa [List.take_of_length_le (by omega)] at this
      clear hown HMO
      go_wp2_with fail
      go_ret
      exact ⟨ret_int HK.out, hbw⟩

set_option maxRecDepth 20000 in
set_option maxHeartbeats 8000000 in
theorem iAndDepth_any (gs : List Gt) (os : List Int) (a1 a2 : Option Addr) (c1 c2 : Nat) (w : World) (hm : gs.length ≤ 1048576) (hm2 : os.length ≤ 1048576) (hr : RdC w a1 (gtCells gs)) (hr2 : RdC w a2 (I64 os)) :
    Calls Try.prog 25 #[.agg #[.slice a1 gs.length c1, .slice a2 os.length c2]] w fun e w' => e = .returned (.int .i64 (andDepth gs os)) ∧ Below w.heap.size w w' := by
  have HR := Lib.hid hr
  have HR2 := Lib.hid hr2
  clear hr hr2
  cases hc : circOk gs os
  · have HC := Lib.hid hc
    have HF : Hid (andDepth gs os = -1) := by show _ = _; simp [andDepth, hc]
    rw [HF.out]
    clear hc
    go_enter Try.func25, Try.ntmps25
    go_wp2_with (go_at_call 23; refine (iCircuitOk_any gs os _ _ _ _ _ hm hm2 (HR.out.below (by (repeat (first | with_reducible exact Below.refl _ _ | (with_reducible refine bel_next ?_ ?_ (by assumption)) | (with_reducible refine Below.alloc ?_ ?_ _) | (with_reducible refine Below.drew ?_) | (with_reducible refine below_drewN ?_ _) | (with_reducible refine Below.setCell ?_ ?_ _))) <;> (first | omega | (simp; done) | (simp; omega)))) (HR2.out.below (by (repeat (first | with_reducible exact Below.refl _ _ | (with_reducible refine bel_next ?_ ?_ (by assumption)) | (with_reducible refine Below.alloc ?_ ?_ _) | (with_reducible refine Below.drew ?_) | (with_reducible refine below_drewN ?_ _) | (with_reducible refine Below.setCell ?_ ?_ _))) <;> (first | omega | (simp; done) | (simp; omega))))).mono ?_; rintro e w1 ⟨rfl, hb1⟩; rw [HC.out]; have z1 := hb1.size; (try simp at z1); have y1 : w.heap.size < w1.heap.size := (by omega); have k1_0 := bel_keeps hb1 (b := w.heap.size) (o := 0) (v := .slice a1 gs.length c1) (by go_simp); have k1_1 := bel_keeps hb1 (b := w.heap.size) (o := 1) (v := .slice a2 os.length c2) (by go_simp))
    go_ret
    exact ⟨rfl, (by (repeat (first | with_reducible exact Below.refl _ _ | (with_reducible refine bel_next ?_ ?_ (by assumption)) | (with_reducible refine Below.alloc ?_ ?_ _) | (with_reducible refine Below.drew ?_) | (with_reducible refine below_drewN ?_ _) | (with_reducible refine Below.setCell ?_ ?_ _))) <;> (first | omega | (simp; done) | (simp; omega)))⟩
  have HC := Lib.hid hc
  have HF : Hid (andDepth gs os = depM gs) := by show _ = _; simp [andDepth, hc]
  rw [HF.out]
  obtain ⟨hok, hob, h6⟩ := circ_parts hc
  have HOK := Lib.hid hok
  clear hc hok hob HF
  go_enter Try.func25, Try.ntmps25
  go_wp2_with (go_at_call 23; refine (iCircuitOk_any gs os _ _ _ _ _ hm hm2 (HR.out.below (by (repeat (first | with_reducible exact Below.refl _ _ | (with_reducible refine bel_next ?_ ?_ (by assumption)) | (with_reducible refine Below.alloc ?_ ?_ _) | (with_reducible refine Below.drew ?_) | (with_reducible refine below_drewN ?_ _) | (with_reducible refine Below.setCell ?_ ?_ _))) <;> (first | omega | (simp; done) | (simp; omega)))) (HR2.out.below (by (repeat (first | with_reducible exact Below.refl _ _ | (with_reducible refine bel_next ?_ ?_ (by assumption)) | (with_reducible refine Below.alloc ?_ ?_ _) | (with_reducible refine Below.drew ?_) | (with_reducible refine below_drewN ?_ _) | (with_reducible refine Below.setCell ?_ ?_ _))) <;> (first | omega | (simp; done) | (simp; omega))))).mono ?_; rintro e w1 ⟨rfl, hb1⟩; rw [HC.out]; have z1 := hb1.size; (try simp at z1); have y1 : w.heap.size < w1.heap.size := (by omega); have k1_0 := bel_keeps hb1 (b := w.heap.size) (o := 0) (v := .slice a1 gs.length c1) (by go_simp); have k1_1 := bel_keeps hb1 (b := w.heap.size) (o := 1) (v := .slice a2 os.length c2) (by go_simp))
  go_loopw [3, 4, 15] (fun v q i wr => ∃ (k g cp : Nat) (mo : Int), k ≤ gs.length ∧ i = .int .i64 k ∧ v = .slice (some ⟨g, 0, none⟩) k cp ∧ q = .int .i64 mo ∧ mo = depM (gs.take k) ∧ Own wr (w.heap.size + 1) 3 1 (some ⟨g, 0, none⟩) k cp (I64 (depL (gs.take k))) ∧ wr.cell? ⟨w.heap.size, 0, none⟩ = some (.slice a1 gs.length c1) ∧ Below w.heap.size w wr) (fun _ _ i _ => gs.length - (intOf i).toNat)
  case atStart => exact ⟨0, w1.heap.size, 0, 0, Nat.zero_le _, rfl, rfl, rfl, rfl, own_last w1 3 1 (w.heap.size + 1) w1.heap.size rfl (by omega), (by first | (go_simp; done) | assumption), (by (repeat (first | with_reducible exact Below.refl _ _ | (with_reducible refine bel_next ?_ ?_ (by assumption)) | (with_reducible refine Below.alloc ?_ ?_ _) | (with_reducible refine Below.drew ?_) | (with_reducible refine below_drewN ?_ _) | (with_reducible refine Below.setCell ?_ ?_ _))) <;> (first | omega | (simp; done) | (simp; omega)))⟩
  case round =>
    obtain ⟨k, g, cp, mo, hk, rfl, rfl, rfl, hmo, hown, k0, hbw⟩ := hrel
    have hbs := hbw.size
    have hge := hown.ge
    have hbx : w.heap.size < wr.heap.size := lt_of_cell k0
    have HMO := Lib.hid hmo
    have hmb := depM_b (gs.take k)
    rw [← hmo, List.length_take, Nat.min_eq_left hk] at hmb
    obtain ⟨mo0, mo1⟩ := hmb
    clear hmo
    by_cases hlt : k < gs.length
    · obtain ⟨b, off, gk, ga, gb, rfl, hbl, hx, d0, d1, d2⟩ := (HR.out.below hbw).gt k hlt
      have hg := gate_cases (show gateOk gk ga gb k = true from gtsOk_at HOK.out hx)
      have HSN := Lib.hid (depL_snoc hx)
      have HMN := Lib.hid (depM_snoc hx)
      have hwl : (depL (gs.take k)).length = k := by rw [depL_len, List.length_take]; omega
      have hwb := depL_b (gs.take k)
      rw [List.length_take, Nat.min_eq_left hk] at hwb
      obtain ⟨ws, hws⟩ : ∃ x, x = depL (gs.take k) := ⟨_, rfl⟩
      rw [← hws] at hown hwl hwb
      have HW := Lib.hid hws
      have HO := Lib.hid hown
      have HWL := Lib.hid hwl
      have HWB := Lib.hid hwb
      have hli : (k : Int) < (gs.length : Int) := by omega
      clear hws hown hwl hwb hx
      rcases hg with ⟨rfl, rfl, q1, q2⟩ | ⟨rfl, rfl, q1, q2⟩ | ⟨rfl, q1, q2, q3, q4⟩ | ⟨rfl, q1, q2, q3, q4⟩ | ⟨rfl, rfl, q1, q2⟩
      · obtain ⟨n, rfl⟩ := Int.eq_ofNat_of_zero_le q1
        have HV : Hid (dval ws ⟨1, n, 0⟩ = 0) := by show _ = _; simp [dval]
        have hvm : ¬ (0 : Int) > mo := by omega
        go_wp2_with (refine wpList_push _ rfl _ _ rfl (w.heap.size + 1) g k cp ws 0 (wr.heap.size + 1) 1 (by rfl) (by rfl) (HO.out.later (by (repeat (first | with_reducible exact Kp.refl _ _ | (with_reducible refine Kp.rng ?_ (by assumption) ?_) | (with_reducible refine Kp.below ?_ (by assumption)) | (with_reducible refine Kp.grown ?_ (by assumption) ?_) | (with_reducible refine Kp.alloc ?_ _) | (with_reducible refine Kp.drew ?_) | (with_reducible refine Kp.drewN ?_ _) | (with_reducible refine Kp.setCell ?_ _ ?_))) <;> (first | omega | (simp; done) | (simp; omega)))) (by go_simp) (by omega) (by first | omega | (simp; done) | (simp; omega)) ?_; intro g5 c5 w5 ho5 hb5 hg5 hat5; (try simp at hat5); have z5 := hb5.size; (try simp at z5); have y5 := hg5.size; (try simp at y5); have ge5 := ho5.ge; have kk5 := grown_cell hg5 (b := w.heap.size) (o := 0) (x := .slice (some ⟨b, off, none⟩) gs.length c1) (by first | (simp; omega) | omega) (by go_simp))
        go_roundw
        case rel =>
          have hv := HV.out
          have hv2 := hv.trans (show _ = 0 by omega)
          exact ⟨k + 1, g5, c5, _, by omega, by go_num, rfl, rfl, by (rw [HMN.out, ← HW.out, ← HMO.out, hv2]; omega), by (rw [HSN.out, ← HW.out, hv2]; exact ho5), kk5, (by (repeat (first | with_reducible exact Below.refl _ _ | (with_reducible refine bel_next ?_ ?_ (by assumption)) | (with_reducible refine Below.alloc ?_ ?_ _) | (with_reducible refine Below.drew ?_) | (with_reducible refine below_drewN ?_ _) | (with_reducible refine Below.setCell ?_ ?_ _))) <;> (first | omega | (simp; done) | (simp; omega)))⟩
        case measure => simp [intOf]; omega
      · obtain ⟨n, rfl⟩ := Int.eq_ofNat_of_zero_le q1
        have HV : Hid (dval ws ⟨2, n, 0⟩ = 0) := by show _ = _; simp [dval]
        have hvm : ¬ (0 : Int) > mo := by omega
        go_wp2_with (refine wpList_push _ rfl _ _ rfl (w.heap.size + 1) g k cp ws 0 (wr.heap.size + 1) 1 (by rfl) (by rfl) (HO.out.later (by (repeat (first | with_reducible exact Kp.refl _ _ | (with_reducible refine Kp.rng ?_ (by assumption) ?_) | (with_reducible refine Kp.below ?_ (by assumption)) | (with_reducible refine Kp.grown ?_ (by assumption) ?_) | (with_reducible refine Kp.alloc ?_ _) | (with_reducible refine Kp.drew ?_) | (with_reducible refine Kp.drewN ?_ _) | (with_reducible refine Kp.setCell ?_ _ ?_))) <;> (first | omega | (simp; done) | (simp; omega)))) (by go_simp) (by omega) (by first | omega | (simp; done) | (simp; omega)) ?_; intro g5 c5 w5 ho5 hb5 hg5 hat5; (try simp at hat5); have z5 := hb5.size; (try simp at z5); have y5 := hg5.size; (try simp at y5); have ge5 := ho5.ge; have kk5 := grown_cell hg5 (b := w.heap.size) (o := 0) (x := .slice (some ⟨b, off, none⟩) gs.length c1) (by first | (simp; omega) | omega) (by go_simp))
        go_roundw
        case rel =>
          have hv := HV.out
          have hv2 := hv.trans (show _ = 0 by omega)
          exact ⟨k + 1, g5, c5, _, by omega, by go_num, rfl, rfl, by (rw [HMN.out, ← HW.out, ← HMO.out, hv2]; omega), by (rw [HSN.out, ← HW.out, hv2]; exact ho5), kk5, (by (repeat (first | with_reducible exact Below.refl _ _ | (with_reducible refine bel_next ?_ ?_ (by assumption)) | (with_reducible refine Below.alloc ?_ ?_ _) | (with_reducible refine Below.drew ?_) | (with_reducible refine below_drewN ?_ _) | (with_reducible refine Below.setCell ?_ ?_ _))) <;> (first | omega | (simp; done) | (simp; omega)))⟩
        case measure => simp [intOf]; omega
      · obtain ⟨n, rfl⟩ := Int.eq_ofNat_of_zero_le q1
        obtain ⟨m, rfl⟩ := Int.eq_ofNat_of_zero_le q3
        have e1 := HO.out.int n (by have := HWL.out; omega)
        have e2 := HO.out.int m (by have := HWL.out; omega)
        have b1 := at0_b (i := (n : Int)) HWB.out (by omega) (by omega)
        have b2 := at0_b (i := (m : Int)) HWB.out (by omega) (by omega)
        have HV : Hid (dval ws ⟨3, n, m⟩ = max (at0 ws n) (at0 ws m)) := by show _ = _; simp [dval]
        obtain ⟨x, hx⟩ : ∃ x, x = at0 ws n := ⟨_, rfl⟩
        obtain ⟨y, hy⟩ : ∃ x, x = at0 ws m := ⟨_, rfl⟩
        rw [← hx] at e1 HV b1
        rw [← hy] at e2 HV b2
        obtain ⟨x0, x1⟩ := b1
        obtain ⟨y0, y1⟩ := b2
        clear hx hy
        by_cases hxy : y > x
        case pos =>
          by_cases hvm : (y) > mo
          case pos =>
            go_wp2_with (refine wpList_push _ rfl _ _ rfl (w.heap.size + 1) g k cp ws (y) (wr.heap.size + 1) 1 (by rfl) (by rfl) (HO.out.later (by (repeat (first | with_reducible exact Kp.refl _ _ | (with_reducible refine Kp.rng ?_ (by assumption) ?_) | (with_reducible refine Kp.below ?_ (by assumption)) | (with_reducible refine Kp.grown ?_ (by assumption) ?_) | (with_reducible refine Kp.alloc ?_ _) | (with_reducible refine Kp.drew ?_) | (with_reducible refine Kp.drewN ?_ _) | (with_reducible refine Kp.setCell ?_ _ ?_))) <;> (first | omega | (simp; done) | (simp; omega)))) (by go_simp) (by omega) (by first | omega | (simp; done) | (simp; omega)) ?_; intro g5 c5 w5 ho5 hb5 hg5 hat5; (try simp at hat5); have z5 := hb5.size; (try simp at z5); have y5 := hg5.size; (try simp at y5); have ge5 := ho5.ge; have kk5 := grown_cell hg5 (b := w.heap.size) (o := 0) (x := .slice (some ⟨b, off, none⟩) gs.length c1) (by first | (simp; omega) | omega) (by go_simp))
            go_quiet (fail)
            go_wp2_with (refine wpList_push _ rfl _ _ rfl (w.heap.size + 1) g k cp ws (y) (wr.heap.size + 1) 1 (by rfl) (by rfl) (HO.out.later (by (repeat (first | with_reducible exact Kp.refl _ _ | (with_reducible refine Kp.rng ?_ (by assumption) ?_) | (with_reducible refine Kp.below ?_ (by assumption)) | (with_reducible refine Kp.grown ?_ (by assumption) ?_) | (with_reducible refine Kp.alloc ?_ _) | (with_reducible refine Kp.drew ?_) | (with_reducible refine Kp.drewN ?_ _) | (with_reducible refine Kp.setCell ?_ _ ?_))) <;> (first | omega | (simp; done) | (simp; omega)))) (by go_simp) (by omega) (by first | omega | (simp; done) | (simp; omega)) ?_; intro g5 c5 w5 ho5 hb5 hg5 hat5; (try simp at hat5); have z5 := hb5.size; (try simp at z5); have y5 := hg5.size; (try simp at y5); have ge5 := ho5.ge; have kk5 := grown_cell hg5 (b := w.heap.size) (o := 0) (x := .slice (some ⟨b, off, none⟩) gs.length c1) (by first | (simp; omega) | omega) (by go_simp))
            go_roundw
            case rel =>
              have hv := HV.out
              have hv2 := hv.trans (show _ = (y) by omega)
              exact ⟨k + 1, g5, c5, _, by omega, by go_num, rfl, rfl, by (rw [HMN.out, ← HW.out, ← HMO.out, hv2]; omega), by (rw [HSN.out, ← HW.out, hv2]; exact ho5), kk5, (by (repeat (first | with_reducible exact Below.refl _ _ | (with_reducible refine bel_next ?_ ?_ (by assumption)) | (with_reducible refine Below.alloc ?_ ?_ _) | (with_reducible refine Below.drew ?_) | (with_reducible refine below_drewN ?_ _) | (with_reducible refine Below.setCell ?_ ?_ _))) <;> (first | omega | (simp; done) | (simp; omega)))⟩
            case measure => simp [intOf]; omega
          case neg =>
            go_wp2_with (refine wpList_push _ rfl _ _ rfl (w.heap.size + 1) g k cp ws (y) (wr.heap.size + 1) 1 (by rfl) (by rfl) (HO.out.later (by (repeat (first | with_reducible exact Kp.refl _ _ | (with_reducible refine Kp.rng ?_ (by assumption) ?_) | (with_reducible refine Kp.below ?_ (by assumption)) | (with_reducible refine Kp.grown ?_ (by assumption) ?_) | (with_reducible refine Kp.alloc ?_ _) | (with_reducible refine Kp.drew ?_) | (with_reducible refine Kp.drewN ?_ _) | (with_reducible refine Kp.setCell ?_ _ ?_))) <;> (first | omega | (simp; done) | (simp; omega)))) (by go_simp) (by omega) (by first | omega | (simp; done) | (simp; omega)) ?_; intro g5 c5 w5 ho5 hb5 hg5 hat5; (try simp at hat5); have z5 := hb5.size; (try simp at z5); have y5 := hg5.size; (try simp at y5); have ge5 := ho5.ge; have kk5 := grown_cell hg5 (b := w.heap.size) (o := 0) (x := .slice (some ⟨b, off, none⟩) gs.length c1) (by first | (simp; omega) | omega) (by go_simp))
            go_quiet (fail)
            go_wp2_with (refine wpList_push _ rfl _ _ rfl (w.heap.size + 1) g k cp ws (y) (wr.heap.size + 1) 1 (by rfl) (by rfl) (HO.out.later (by (repeat (first | with_reducible exact Kp.refl _ _ | (with_reducible refine Kp.rng ?_ (by assumption) ?_) | (with_reducible refine Kp.below ?_ (by assumption)) | (with_reducible refine Kp.grown ?_ (by assumption) ?_) | (with_reducible refine Kp.alloc ?_ _) | (with_reducible refine Kp.drew ?_) | (with_reducible refine Kp.drewN ?_ _) | (with_reducible refine Kp.setCell ?_ _ ?_))) <;> (first | omega | (simp; done) | (simp; omega)))) (by go_simp) (by omega) (by first | omega | (simp; done) | (simp; omega)) ?_; intro g5 c5 w5 ho5 hb5 hg5 hat5; (try simp at hat5); have z5 := hb5.size; (try simp at z5); have y5 := hg5.size; (try simp at y5); have ge5 := ho5.ge; have kk5 := grown_cell hg5 (b := w.heap.size) (o := 0) (x := .slice (some ⟨b, off, none⟩) gs.length c1) (by first | (simp; omega) | omega) (by go_simp))
            go_roundw
            case rel =>
              have hv := HV.out
              have hv2 := hv.trans (show _ = (y) by omega)
              exact ⟨k + 1, g5, c5, _, by omega, by go_num, rfl, rfl, by (rw [HMN.out, ← HW.out, ← HMO.out, hv2]; omega), by (rw [HSN.out, ← HW.out, hv2]; exact ho5), kk5, (by (repeat (first | with_reducible exact Below.refl _ _ | (with_reducible refine bel_next ?_ ?_ (by assumption)) | (with_reducible refine Below.alloc ?_ ?_ _) | (with_reducible refine Below.drew ?_) | (with_reducible refine below_drewN ?_ _) | (with_reducible refine Below.setCell ?_ ?_ _))) <;> (first | omega | (simp; done) | (simp; omega)))⟩
            case measure => simp [intOf]; omega
        case neg =>
          by_cases hvm : (x) > mo
          case pos =>
            go_wp2_with (refine wpList_push _ rfl _ _ rfl (w.heap.size + 1) g k cp ws (x) (wr.heap.size + 1) 1 (by rfl) (by rfl) (HO.out.later (by (repeat (first | with_reducible exact Kp.refl _ _ | (with_reducible refine Kp.rng ?_ (by assumption) ?_) | (with_reducible refine Kp.below ?_ (by assumption)) | (with_reducible refine Kp.grown ?_ (by assumption) ?_) | (with_reducible refine Kp.alloc ?_ _) | (with_reducible refine Kp.drew ?_) | (with_reducible refine Kp.drewN ?_ _) | (with_reducible refine Kp.setCell ?_ _ ?_))) <;> (first | omega | (simp; done) | (simp; omega)))) (by go_simp) (by omega) (by first | omega | (simp; done) | (simp; omega)) ?_; intro g5 c5 w5 ho5 hb5 hg5 hat5; (try simp at hat5); have z5 := hb5.size; (try simp at z5); have y5 := hg5.size; (try simp at y5); have ge5 := ho5.ge; have kk5 := grown_cell hg5 (b := w.heap.size) (o := 0) (x := .slice (some ⟨b, off, none⟩) gs.length c1) (by first | (simp; omega) | omega) (by go_simp))
            go_quiet (fail)
            go_wp2_with (refine wpList_push _ rfl _ _ rfl (w.heap.size + 1) g k cp ws (x) (wr.heap.size + 1) 1 (by rfl) (by rfl) (HO.out.later (by (repeat (first | with_reducible exact Kp.refl _ _ | (with_reducible refine Kp.rng ?_ (by assumption) ?_) | (with_reducible refine Kp.below ?_ (by assumption)) | (with_reducible refine Kp.grown ?_ (by assumption) ?_) | (with_reducible refine Kp.alloc ?_ _) | (with_reducible refine Kp.drew ?_) | (with_reducible refine Kp.drewN ?_ _) | (with_reducible refine Kp.setCell ?_ _ ?_))) <;> (first | omega | (simp; done) | (simp; omega)))) (by go_simp) (by omega) (by first | omega | (simp; done) | (simp; omega)) ?_; intro g5 c5 w5 ho5 hb5 hg5 hat5; (try simp at hat5); have z5 := hb5.size; (try simp at z5); have y5 := hg5.size; (try simp at y5); have ge5 := ho5.ge; have kk5 := grown_cell hg5 (b := w.heap.size) (o := 0) (x := .slice (some ⟨b, off, none⟩) gs.length c1) (by first | (simp; omega) | omega) (by go_simp))
            go_roundw
            case rel =>
              have hv := HV.out
              have hv2 := hv.trans (show _ = (x) by omega)
              exact ⟨k + 1, g5, c5, _, by omega, by go_num, rfl, rfl, by (rw [HMN.out, ← HW.out, ← HMO.out, hv2]; omega), by (rw [HSN.out, ← HW.out, hv2]; exact ho5), kk5, (by (repeat (first | with_reducible exact Below.refl _ _ | (with_reducible refine bel_next ?_ ?_ (by assumption)) | (with_reducible refine Below.alloc ?_ ?_ _) | (with_reducible refine Below.drew ?_) | (with_reducible refine below_drewN ?_ _) | (with_reducible refine Below.setCell ?_ ?_ _))) <;> (first | omega | (simp; done) | (simp; omega)))⟩
            case measure => simp [intOf]; omega
          case neg =>
            go_wp2_with (refine wpList_push _ rfl _ _ rfl (w.heap.size + 1) g k cp ws (x) (wr.heap.size + 1) 1 (by rfl) (by rfl) (HO.out.later (by (repeat (first | with_reducible exact Kp.refl _ _ | (with_reducible refine Kp.rng ?_ (by assumption) ?_) | (with_reducible refine Kp.below ?_ (by assumption)) | (with_reducible refine Kp.grown ?_ (by assumption) ?_) | (with_reducible refine Kp.alloc ?_ _) | (with_reducible refine Kp.drew ?_) | (with_reducible refine Kp.drewN ?_ _) | (with_reducible refine Kp.setCell ?_ _ ?_))) <;> (first | omega | (simp; done) | (simp; omega)))) (by go_simp) (by omega) (by first | omega | (simp; done) | (simp; omega)) ?_; intro g5 c5 w5 ho5 hb5 hg5 hat5; (try simp at hat5); have z5 := hb5.size; (try simp at z5); have y5 := hg5.size; (try simp at y5); have ge5 := ho5.ge; have kk5 := grown_cell hg5 (b := w.heap.size) (o := 0) (x := .slice (some ⟨b, off, none⟩) gs.length c1) (by first | (simp; omega) | omega) (by go_simp))
            go_quiet (fail)
            go_wp2_with (refine wpList_push _ rfl _ _ rfl (w.heap.size + 1) g k cp ws (x) (wr.heap.size + 1) 1 (by rfl) (by rfl) (HO.out.later (by (repeat (first | with_reducible exact Kp.refl _ _ | (with_reducible refine Kp.rng ?_ (by assumption) ?_) | (with_reducible refine Kp.below ?_ (by assumption)) | (with_reducible refine Kp.grown ?_ (by assumption) ?_) | (with_reducible refine Kp.alloc ?_ _) | (with_reducible refine Kp.drew ?_) | (with_reducible refine Kp.drewN ?_ _) | (with_reducible refine Kp.setCell ?_ _ ?_))) <;> (first | omega | (simp; done) | (simp; omega)))) (by go_simp) (by omega) (by first | omega | (simp; done) | (simp; omega)) ?_; intro g5 c5 w5 ho5 hb5 hg5 hat5; (try simp at hat5); have z5 := hb5.size; (try simp at z5); have y5 := hg5.size; (try simp at y5); have ge5 := ho5.ge; have kk5 := grown_cell hg5 (b := w.heap.size) (o := 0) (x := .slice (some ⟨b, off, none⟩) gs.length c1) (by first | (simp; omega) | omega) (by go_simp))
            go_roundw
            case rel =>
              have hv := HV.out
              have hv2 := hv.trans (show _ = (x) by omega)
              exact ⟨k + 1, g5, c5, _, by omega, by go_num, rfl, rfl, by (rw [HMN.out, ← HW.out, ← HMO.out, hv2]; omega), by (rw [HSN.out, ← HW.out, hv2]; exact ho5), kk5, (by (repeat (first | with_reducible exact Below.refl _ _ | (with_reducible refine bel_next ?_ ?_ (by assumption)) | (with_reducible refine Below.alloc ?_ ?_ _) | (with_reducible refine Below.drew ?_) | (with_reducible refine below_drewN ?_ _) | (with_reducible refine Below.setCell ?_ ?_ _))) <;> (first | omega | (simp; done) | (simp; omega)))⟩
            case measure => simp [intOf]; omega
      · obtain ⟨n, rfl⟩ := Int.eq_ofNat_of_zero_le q1
        obtain ⟨m, rfl⟩ := Int.eq_ofNat_of_zero_le q3
        have e1 := HO.out.int n (by have := HWL.out; omega)
        have e2 := HO.out.int m (by have := HWL.out; omega)
        have b1 := at0_b (i := (n : Int)) HWB.out (by omega) (by omega)
        have b2 := at0_b (i := (m : Int)) HWB.out (by omega) (by omega)
        have HV : Hid (dval ws ⟨4, n, m⟩ = max (at0 ws n) (at0 ws m) + 1) := by show _ = _; simp [dval]
        obtain ⟨x, hx⟩ : ∃ x, x = at0 ws n := ⟨_, rfl⟩
        obtain ⟨y, hy⟩ : ∃ x, x = at0 ws m := ⟨_, rfl⟩
        rw [← hx] at e1 HV b1
        rw [← hy] at e2 HV b2
        obtain ⟨x0, x1⟩ := b1
        obtain ⟨y0, y1⟩ := b2
        clear hx hy
        by_cases hxy : y > x
        case pos =>
          by_cases hvm : (y + 1) > mo
          case pos =>
            go_wp2_with (refine wpList_push _ rfl _ _ rfl (w.heap.size + 1) g k cp ws (y + 1) (wr.heap.size + 1) 1 (by rfl) (by rfl) (HO.out.later (by (repeat (first | with_reducible exact Kp.refl _ _ | (with_reducible refine Kp.rng ?_ (by assumption) ?_) | (with_reducible refine Kp.below ?_ (by assumption)) | (with_reducible refine Kp.grown ?_ (by assumption) ?_) | (with_reducible refine Kp.alloc ?_ _) | (with_reducible refine Kp.drew ?_) | (with_reducible refine Kp.drewN ?_ _) | (with_reducible refine Kp.setCell ?_ _ ?_))) <;> (first | omega | (simp; done) | (simp; omega)))) (by go_simp) (by omega) (by first | omega | (simp; done) | (simp; omega)) ?_; intro g5 c5 w5 ho5 hb5 hg5 hat5; (try simp at hat5); have z5 := hb5.size; (try simp at z5); have y5 := hg5.size; (try simp at y5); have ge5 := ho5.ge; have kk5 := grown_cell hg5 (b := w.heap.size) (o := 0) (x := .slice (some ⟨b, off, none⟩) gs.length c1) (by first | (simp; omega) | omega) (by go_simp))
            go_quiet (fail)
            go_wp2_with (refine wpList_push _ rfl _ _ rfl (w.heap.size + 1) g k cp ws (y + 1) (wr.heap.size + 1) 1 (by rfl) (by rfl) (HO.out.later (by (repeat (first | with_reducible exact Kp.refl _ _ | (with_reducible refine Kp.rng ?_ (by assumption) ?_) | (with_reducible refine Kp.below ?_ (by assumption)) | (with_reducible refine Kp.grown ?_ (by assumption) ?_) | (with_reducible refine Kp.alloc ?_ _) | (with_reducible refine Kp.drew ?_) | (with_reducible refine Kp.drewN ?_ _) | (with_reducible refine Kp.setCell ?_ _ ?_))) <;> (first | omega | (simp; done) | (simp; omega)))) (by go_simp) (by omega) (by first | omega | (simp; done) | (simp; omega)) ?_; intro g5 c5 w5 ho5 hb5 hg5 hat5; (try simp at hat5); have z5 := hb5.size; (try simp at z5); have y5 := hg5.size; (try simp at y5); have ge5 := ho5.ge; have kk5 := grown_cell hg5 (b := w.heap.size) (o := 0) (x := .slice (some ⟨b, off, none⟩) gs.length c1) (by first | (simp; omega) | omega) (by go_simp))
            go_roundw
            case rel =>
              have hv := HV.out
              have hv2 := hv.trans (show _ = (y + 1) by omega)
              exact ⟨k + 1, g5, c5, _, by omega, by go_num, rfl, rfl, by (rw [HMN.out, ← HW.out, ← HMO.out, hv2]; omega), by (rw [HSN.out, ← HW.out, hv2]; exact ho5), kk5, (by (repeat (first | with_reducible exact Below.refl _ _ | (with_reducible refine bel_next ?_ ?_ (by assumption)) | (with_reducible refine Below.alloc ?_ ?_ _) | (with_reducible refine Below.drew ?_) | (with_reducible refine below_drewN ?_ _) | (with_reducible refine Below.setCell ?_ ?_ _))) <;> (first | omega | (simp; done) | (simp; omega)))⟩
            case measure => simp [intOf]; omega
          case neg =>
            go_wp2_with (refine wpList_push _ rfl _ _ rfl (w.heap.size + 1) g k cp ws (y + 1) (wr.heap.size + 1) 1 (by rfl) (by rfl) (HO.out.later (by (repeat (first | with_reducible exact Kp.refl _ _ | (with_reducible refine Kp.rng ?_ (by assumption) ?_) | (with_reducible refine Kp.below ?_ (by assumption)) | (with_reducible refine Kp.grown ?_ (by assumption) ?_) | (with_reducible refine Kp.alloc ?_ _) | (with_reducible refine Kp.drew ?_) | (with_reducible refine Kp.drewN ?_ _) | (with_reducible refine Kp.setCell ?_ _ ?_))) <;> (first | omega | (simp; done) | (simp; omega)))) (by go_simp) (by omega) (by first | omega | (simp; done) | (simp; omega)) ?_; intro g5 c5 w5 ho5 hb5 hg5 hat5; (try simp at hat5); have z5 := hb5.size; (try simp at z5); have y5 := hg5.size; (try simp at y5); have ge5 := ho5.ge; have kk5 := grown_cell hg5 (b := w.heap.size) (o := 0) (x := .slice (some ⟨b, off, none⟩) gs.length c1) (by first | (simp; omega) | omega) (by go_simp))
            go_quiet (fail)
            go_wp2_with (refine wpList_push _ rfl _ _ rfl (w.heap.size + 1) g k cp ws (y + 1) (wr.heap.size + 1) 1 (by rfl) (by rfl) (HO.out.later (by (repeat (first | with_reducible exact Kp.refl _ _ | (with_reducible refine Kp.rng ?_ (by assumption) ?_) | (with_reducible refine Kp.below ?_ (by assumption)) | (with_reducible refine Kp.grown ?_ (by assumption) ?_) | (with_reducible refine Kp.alloc ?_ _) | (with_reducible refine Kp.drew ?_) | (with_reducible refine Kp.drewN ?_ _) | (with_reducible refine Kp.setCell ?_ _ ?_))) <;> (first | omega | (simp; done) | (simp; omega)))) (by go_simp) (by omega) (by first | omega | (simp; done) | (simp; omega)) ?_; intro g5 c5 w5 ho5 hb5 hg5 hat5; (try simp at hat5); have z5 := hb5.size; (try simp at z5); have y5 := hg5.size; (try simp at y5); have ge5 := ho5.ge; have kk5 := grown_cell hg5 (b := w.heap.size) (o := 0) (x := .slice (some ⟨b, off, none⟩) gs.length c1) (by first | (simp; omega) | omega) (by go_simp))
            go_roundw
            case rel =>
              have hv := HV.out
              have hv2 := hv.trans (show _ = (y + 1) by omega)
              exact ⟨k + 1, g5, c5, _, by omega, by go_num, rfl, rfl, by (rw [HMN.out, ← HW.out, ← HMO.out, hv2]; omega), by (rw [HSN.out, ← HW.out, hv2]; exact ho5), kk5, (by (repeat (first | with_reducible exact Below.refl _ _ | (with_reducible refine bel_next ?_ ?_ (by assumption)) | (with_reducible refine Below.alloc ?_ ?_ _) | (with_reducible refine Below.drew ?_) | (with_reducible refine below_drewN ?_ _) | (with_reducible refine Below.setCell ?_ ?_ _))) <;> (first | omega | (simp; done) | (simp; omega)))⟩
            case measure => simp [intOf]; omega
        case neg =>
          by_cases hvm : (x + 1) > mo
          case pos =>
            go_wp2_with (refine wpList_push _ rfl _ _ rfl (w.heap.size + 1) g k cp ws (x + 1) (wr.heap.size + 1) 1 (by rfl) (by rfl) (HO.out.later (by (repeat (first | with_reducible exact Kp.refl _ _ | (with_reducible refine Kp.rng ?_ (by assumption) ?_) | (with_reducible refine Kp.below ?_ (by assumption)) | (with_reducible refine Kp.grown ?_ (by assumption) ?_) | (with_reducible refine Kp.alloc ?_ _) | (with_reducible refine Kp.drew ?_) | (with_reducible refine Kp.drewN ?_ _) | (with_reducible refine Kp.setCell ?_ _ ?_))) <;> (first | omega | (simp; done) | (simp; omega)))) (by go_simp) (by omega) (by first | omega | (simp; done) | (simp; omega)) ?_; intro g5 c5 w5 ho5 hb5 hg5 hat5; (try simp at hat5); have z5 := hb5.size; (try simp at z5); have y5 := hg5.size; (try simp at y5); have ge5 := ho5.ge; have kk5 := grown_cell hg5 (b := w.heap.size) (o := 0) (x := .slice (some ⟨b, off, none⟩) gs.length c1) (by first | (simp; omega) | omega) (by go_simp))
            go_quiet (fail)
            go_wp2_with (refine wpList_push _ rfl _ _ rfl (w.heap.size + 1) g k cp ws (x + 1) (wr.heap.size + 1) 1 (by rfl) (by rfl) (HO.out.later (by (repeat (first | with_reducible exact Kp.refl _ _ | (with_reducible refine Kp.rng ?_ (by assumption) ?_) | (with_reducible refine Kp.below ?_ (by assumption)) | (with_reducible refine Kp.grown ?_ (by assumption) ?_) | (with_reducible refine Kp.alloc ?_ _) | (with_reducible refine Kp.drew ?_) | (with_reducible refine Kp.drewN ?_ _) | (with_reducible refine Kp.setCell ?_ _ ?_))) <;> (first | omega | (simp; done) | (simp; omega)))) (by go_simp) (by omega) (by first | omega | (simp; done) | (simp; omega)) ?_; intro g5 c5 w5 ho5 hb5 hg5 hat5; (try simp at hat5); have z5 := hb5.size; (try simp at z5); have y5 := hg5.size; (try simp at y5); have ge5 := ho5.ge; have kk5 := grown_cell hg5 (b := w.heap.size) (o := 0) (x := .slice (some ⟨b, off, none⟩) gs.length c1) (by first | (simp; omega) | omega) (by go_simp))
            go_roundw
            case rel =>
              have hv := HV.out
              have hv2 := hv.trans (show _ = (x + 1) by omega)
              exact ⟨k + 1, g5, c5, _, by omega, by go_num, rfl, rfl, by (rw [HMN.out, ← HW.out, ← HMO.out, hv2]; omega), by (rw [HSN.out, ← HW.out, hv2]; exact ho5), kk5, (by (repeat (first | with_reducible exact Below.refl _ _ | (with_reducible refine bel_next ?_ ?_ (by assumption)) | (with_reducible refine Below.alloc ?_ ?_ _) | (with_reducible refine Below.drew ?_) | (with_reducible refine below_drewN ?_ _) | (with_reducible refine Below.setCell ?_ ?_ _))) <;> (first | omega | (simp; done) | (simp; omega)))⟩
            case measure => simp [intOf]; omega
          case neg =>
            go_wp2_with (refine wpList_push _ rfl _ _ rfl (w.heap.size + 1) g k cp ws (x + 1) (wr.heap.size + 1) 1 (by rfl) (by rfl) (HO.out.later (by (repeat (first | with_reducible exact Kp.refl _ _ | (with_reducible refine Kp.rng ?_ (by assumption) ?_) | (with_reducible refine Kp.below ?_ (by assumption)) | (with_reducible refine Kp.grown ?_ (by assumption) ?_) | (with_reducible refine Kp.alloc ?_ _) | (with_reducible refine Kp.drew ?_) | (with_reducible refine Kp.drewN ?_ _) | (with_reducible refine Kp.setCell ?_ _ ?_))) <;> (first | omega | (simp; done) | (simp; omega)))) (by go_simp) (by omega) (by first | omega | (simp; done) | (simp; omega)) ?_; intro g5 c5 w5 ho5 hb5 hg5 hat5; (try simp at hat5); have z5 := hb5.size; (try simp at z5); have y5 := hg5.size; (try simp at y5); have ge5 := ho5.ge; have kk5 := grown_cell hg5 (b := w.heap.size) (o := 0) (x := .slice (some ⟨b, off, none⟩) gs.length c1) (by first | (simp; omega) | omega) (by go_simp))
            go_quiet (fail)
            go_wp2_with (refine wpList_push _ rfl _ _ rfl (w.heap.size + 1) g k cp ws (x + 1) (wr.heap.size + 1) 1 (by rfl) (by rfl) (HO.out.later (by (repeat (first | with_reducible exact Kp.refl _ _ | (with_reducible refine Kp.rng ?_ (by assumption) ?_) | (with_reducible refine Kp.below ?_ (by assumption)) | (with_reducible refine Kp.grown ?_ (by assumption) ?_) | (with_reducible refine Kp.alloc ?_ _) | (with_reducible refine Kp.drew ?_) | (with_reducible refine Kp.drewN ?_ _) | (with_reducible refine Kp.setCell ?_ _ ?_))) <;> (first | omega | (simp; done) | (simp; omega)))) (by go_simp) (by omega) (by first | omega | (simp; done) | (simp; omega)) ?_; intro g5 c5 w5 ho5 hb5 hg5 hat5; (try simp at hat5); have z5 := hb5.size; (try simp at z5); have y5 := hg5.size; (try simp at y5); have ge5 := ho5.ge; have kk5 := grown_cell hg5 (b := w.heap.size) (o := 0) (x := .slice (some ⟨b, off, none⟩) gs.length c1) (by first | (simp; omega) | omega) (by go_simp))
            go_roundw
            case rel =>
              have hv := HV.out
              have hv2 := hv.trans (show _ = (x + 1) by omega)
              exact ⟨k + 1, g5, c5, _, by omega, by go_num, rfl, rfl, by (rw [HMN.out, ← HW.out, ← HMO.out, hv2]; omega), by (rw [HSN.out, ← HW.out, hv2]; exact ho5), kk5, (by (repeat (first | with_reducible exact Below.refl _ _ | (with_reducible refine bel_next ?_ ?_ (by assumption)) | (with_reducible refine Below.alloc ?_ ?_ _) | (with_reducible refine Below.drew ?_) | (with_reducible refine below_drewN ?_ _) | (with_reducible refine Below.setCell ?_ ?_ _))) <;> (first | omega | (simp; done) | (simp; omega)))⟩
            case measure => simp [intOf]; omega
      · obtain ⟨n, rfl⟩ := Int.eq_ofNat_of_zero_le q1
        have e1 := HO.out.int n (by have := HWL.out; omega)
        have b1 := at0_b (i := (n : Int)) HWB.out (by omega) (by omega)
        have HV : Hid (dval ws ⟨5, n, 0⟩ = at0 ws n) := by show _ = _; simp [dval]
        obtain ⟨x, hx⟩ : ∃ x, x = at0 ws n := ⟨_, rfl⟩
        rw [← hx] at e1 HV b1
        obtain ⟨x0, x1⟩ := b1
        clear hx
        by_cases hvm : x > mo
        case pos =>
          go_wp2_with (refine wpList_push _ rfl _ _ rfl (w.heap.size + 1) g k cp ws x (wr.heap.size + 1) 1 (by rfl) (by rfl) (HO.out.later (by (repeat (first | with_reducible exact Kp.refl _ _ | (with_reducible refine Kp.rng ?_ (by assumption) ?_) | (with_reducible refine Kp.below ?_ (by assumption)) | (with_reducible refine Kp.grown ?_ (by assumption) ?_) | (with_reducible refine Kp.alloc ?_ _) | (with_reducible refine Kp.drew ?_) | (with_reducible refine Kp.drewN ?_ _) | (with_reducible refine Kp.setCell ?_ _ ?_))) <;> (first | omega | (simp; done) | (simp; omega)))) (by go_simp) (by omega) (by first | omega | (simp; done) | (simp; omega)) ?_; intro g5 c5 w5 ho5 hb5 hg5 hat5; (try simp at hat5); have z5 := hb5.size; (try simp at z5); have y5 := hg5.size; (try simp at y5); have ge5 := ho5.ge; have kk5 := grown_cell hg5 (b := w.heap.size) (o := 0) (x := .slice (some ⟨b, off, none⟩) gs.length c1) (by first | (simp; omega) | omega) (by go_simp))
          go_roundw
          case rel =>
            have hv := HV.out
            have hv2 := hv.trans (show _ = x by omega)
            exact ⟨k + 1, g5, c5, _, by omega, by go_num, rfl, rfl, by (rw [HMN.out, ← HW.out, ← HMO.out, hv2]; omega), by (rw [HSN.out, ← HW.out, hv2]; exact ho5), kk5, (by (repeat (first | with_reducible exact Below.refl _ _ | (with_reducible refine bel_next ?_ ?_ (by assumption)) | (with_reducible refine Below.alloc ?_ ?_ _) | (with_reducible refine Below.drew ?_) | (with_reducible refine below_drewN ?_ _) | (with_reducible refine Below.setCell ?_ ?_ _))) <;> (first | omega | (simp; done) | (simp; omega)))⟩
          case measure => simp [intOf]; omega
        case neg =>
          go_wp2_with (refine wpList_push _ rfl _ _ rfl (w.heap.size + 1) g k cp ws x (wr.heap.size + 1) 1 (by rfl) (by rfl) (HO.out.later (by (repeat (first | with_reducible exact Kp.refl _ _ | (with_reducible refine Kp.rng ?_ (by assumption) ?_) | (with_reducible refine Kp.below ?_ (by assumption)) | (with_reducible refine Kp.grown ?_ (by assumption) ?_) | (with_reducible refine Kp.alloc ?_ _) | (with_reducible refine Kp.drew ?_) | (with_reducible refine Kp.drewN ?_ _) | (with_reducible refine Kp.setCell ?_ _ ?_))) <;> (first | omega | (simp; done) | (simp; omega)))) (by go_simp) (by omega) (by first | omega | (simp; done) | (simp; omega)) ?_; intro g5 c5 w5 ho5 hb5 hg5 hat5; (try simp at hat5); have z5 := hb5.size; (try simp at z5); have y5 := hg5.size; (try simp at y5); have ge5 := ho5.ge; have kk5 := grown_cell hg5 (b := w.heap.size) (o := 0) (x := .slice (some ⟨b, off, none⟩) gs.length c1) (by first | (simp; omega) | omega) (by go_simp))
          go_roundw
          case rel =>
            have hv := HV.out
            have hv2 := hv.trans (show _ = x by omega)
            exact ⟨k + 1, g5, c5, _, by omega, by go_num, rfl, rfl, by (rw [HMN.out, ← HW.out, ← HMO.out, hv2]; omega), by (rw [HSN.out, ← HW.out, hv2]; exact ho5), kk5, (by (repeat (first | with_reducible exact Below.refl _ _ | (with_reducible refine bel_next ?_ ?_ (by assumption)) | (with_reducible refine Below.alloc ?_ ?_ _) | (with_reducible refine Below.drew ?_) | (with_reducible refine below_drewN ?_ _) | (with_reducible refine Below.setCell ?_ ?_ _))) <;> (first | omega | (simp; done) | (simp; omega)))⟩
          case measure => simp [intOf]; omega
    · have HK : Hid (mo = depM gs) := by
        show _ = _
        have := HMO.out
        rwa [List.take_of_length_le (by omega)] at this
      clear hown HMO
      go_wp2_with fail
      go_ret
      exact ⟨ret_int HK.out, hbw⟩

end Go.Proofs.Ytfpblgbokmpmjaa

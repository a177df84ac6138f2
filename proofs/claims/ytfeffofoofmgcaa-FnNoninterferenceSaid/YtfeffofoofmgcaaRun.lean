/- RunProgram, both. -/
import Derived.Test.YtfeffofoofmgcaaStepState
import Derived.Test.YtfeffofoofmgcaaUnroll
import Derived.Test.YtfeffofoofmgcaaNew
namespace Go.Proofs.Ytfeffofoofmgcaa
open Go.RowKit
set_option linter.unusedVariables false
set_option linter.unusedSimpArgs false

def runF (us : List St) (xss : List (List Int)) : List Int × List Int := us.foldl (fun p s => (stepRegs p.1 p.2 s xss, stepOuts p.1 p.2 s xss)) (List.replicate 8 0, [])
theorem runF_snoc {us : List St} {xss : List (List Int)} {k : Nat} {s : St} (h : us[k]? = some s) : runF (us.take (k + 1)) xss = (stepRegs (runF (us.take k) xss).1 (runF (us.take k) xss).2 s xss, stepOuts (runF (us.take k) xss).1 (runF (us.take k) xss).2 s xss) := by
  unfold runF; rw [take_snoc h, List.foldl_append]; rfl
theorem runF_len (us : List St) (xss : List (List Int)) : ∀ k, (runF (us.take k) xss).1.length = 8 ∧ (runF (us.take k) xss).2.length ≤ k := by
  intro k
  induction k with
  | zero => simp [runF]
  | succ k ih =>
    cases hx : us[k]? with
    | none =>
      have : us.length ≤ k := by simpa using hx
      rw [List.take_of_length_le (by omega)]
      rw [List.take_of_length_le (by omega)] at ih
      exact ⟨ih.1, by omega⟩
    | some s =>
      rw [runF_snoc hx]
      exact ⟨by rw [stepRegs_len]; exact ih.1, by have := stepOuts_len (runF (us.take k) xss).1 (runF (us.take k) xss).2 s xss; simp only; omega⟩
def runOk (ok : Bool) (xss : List (List Int)) : Bool := ok && inputsOk xss
def runOuts (us : List St) (xss : List (List Int)) (ok : Bool) : List Int := if runOk ok xss then (runF us xss).2 else []
theorem runOuts_len (us : List St) (xss : List (List Int)) (ok : Bool) : (runOuts us xss ok).length ≤ us.length := by
  unfold runOuts
  have := (runF_len us xss us.length).2
  rw [List.take_length] at this
  split <;> simp <;> omega

set_option maxRecDepth 20000 in
set_option maxHeartbeats 4000000 in
theorem sRunProgram_any (xs us : List St) (ok : Bool) (hv : IsUnr xs us ok) (ad : Option Addr) (cp : Nat) (w : World) (hm : xs.length ≤ maxLen) (hcp : xs.length ≤ cp) (hcm : cp ≤ maxLen) (hr : RdC w ad (stCells xs)) (rr : List Rw) (ai : Option Addr) (ci : Nat) (hmr : rr.length ≤ 1048576) (hml : rowsLe rr) (hri : RdR w ai rr) :
    Calls Try.prog 63 #[.slice ad xs.length cp, .slice ai rr.length ci] w fun e w' => ∃ a c, e = .returned (.tuple #[.slice a (runOuts us (rr.map Rw.xs) ok).length c, .bool (runOk ok (rr.map Rw.xs))]) ∧ Own w' w.heap.size 3 1 a (runOuts us (rr.map Rw.xs) ok).length c (I64 (runOuts us (rr.map Rw.xs) ok)) ∧ Below w.heap.size w w' := by
  have hmm := hm
  unfold maxLen at hm
  have HR := Lib.hid hr
  have HRI := Lib.hid hri
  have hMr : rr.length ≤ maxLen := by unfold maxLen; omega
  have h120 := unr_len hv
  have HV := Lib.hid hv
  clear hr hv hri
  cases hin : inputsOk (rr.map Rw.xs)
  · have HIN := Lib.hid hin
    have HF : Hid (runOk ok (rr.map Rw.xs) = false) := by show _ = _; simp [runOk, hin]
    have HF2 : Hid (runOuts us (rr.map Rw.xs) ok = []) := by show _ = _; simp [runOuts, runOk, hin]
    rw [HF.out, HF2.out]
    clear hin HF HF2
    cases ok
    all_goals
      go_enter Try.func63, Try.ntmps63
      go_wp2_with (first | (go_at_call 40; refine (sUnroll_any xs us _ HV.out _ _ _ hmm hcp hcm HR.out).mono ?_; rintro e w1 ⟨a, c, rfl, ho, hb1⟩) | (go_at_call 97; refine (sInputsOk_any rr _ _ _ hMr hml (HRI.out.below (by (repeat (first | with_reducible exact Below.refl _ _ | (with_reducible refine bel_next ?_ ?_ (by assumption)) | (with_reducible refine Below.alloc ?_ ?_ _) | (with_reducible refine Below.drew ?_) | (with_reducible refine below_drewN ?_ _) | (with_reducible refine Below.setCell ?_ ?_ _))) <;> (first | omega | (simp; done) | (simp; omega))))).mono ?_; rintro e _ ⟨rfl, rfl⟩; rw [HIN.out]))
      go_ret2
      have z1 := hb1.size
      exact ⟨some ⟨w1.heap.size, 0, none⟩, 0, rfl, (own_new w1 3 1).lo (by omega), (by (repeat (first | with_reducible exact Below.refl _ _ | (with_reducible refine bel_next ?_ ?_ (by assumption)) | (with_reducible refine Below.alloc ?_ ?_ _) | (with_reducible refine Below.drew ?_) | (with_reducible refine below_drewN ?_ _) | (with_reducible refine Below.setCell ?_ ?_ _))) <;> (first | omega | (simp; done) | (simp; omega)))⟩
  have HIN := Lib.hid hin
  have HT : Hid (runOk true (rr.map Rw.xs) = true) := by show _ = _; simp [runOk, hin]
  clear hin
  cases ok
  · go_enter Try.func63, Try.ntmps63
    go_wp2_with (go_at_call 40; refine (sUnroll_any xs us _ HV.out _ _ _ hmm hcp hcm HR.out).mono ?_; rintro e w1 ⟨a, c, rfl, ho, hb1⟩)
    go_ret2
    have z1 := hb1.size
    exact ⟨some ⟨w1.heap.size, 0, none⟩, 0, rfl, (own_new w1 3 1).lo (by omega), (by (repeat (first | with_reducible exact Below.refl _ _ | (with_reducible refine bel_next ?_ ?_ (by assumption)) | (with_reducible refine Below.alloc ?_ ?_ _) | (with_reducible refine Below.drew ?_) | (with_reducible refine below_drewN ?_ _) | (with_reducible refine Below.setCell ?_ ?_ _))) <;> (first | omega | (simp; done) | (simp; omega)))⟩
  · rw [HT.out]
    go_enter Try.func63, Try.ntmps63
    go_wp2_with (first | (go_at_call 40; refine (sUnroll_any xs us _ HV.out _ _ _ hmm hcp hcm HR.out).mono ?_; rintro e w1 ⟨a, c, rfl, ho, hb1⟩; have z1 := hb1.size; have HRU := Lib.hid ho.rd; have HBA : Hid (∀ x, a = some x → x.block < w1.heap.size) := fun x hx => (ho.blk x hx).2.2.2; clear ho) | (go_at_call 97; refine (sInputsOk_any rr _ _ _ hMr hml (HRI.out.below (by (repeat (first | with_reducible exact Below.refl _ _ | (with_reducible refine bel_next ?_ ?_ (by assumption)) | (with_reducible refine Below.alloc ?_ ?_ _) | (with_reducible refine Below.drew ?_) | (with_reducible refine below_drewN ?_ _) | (with_reducible refine Below.setCell ?_ ?_ _))) <;> (first | omega | (simp; done) | (simp; omega))))).mono ?_; rintro e _ ⟨rfl, rfl⟩; rw [HIN.out]) | (go_at_call 100; refine (sStateNew_any _).mono ?_; rintro e w2 ⟨g, rfl, hog, hb2⟩; have z2 := hb2.size; have qg := hog.ge; have HOG := Lib.hid hog; clear hog))
    go_loopw [9] (fun i wr => ∃ (k : Nat) (rs os : List Int) (a1 a2 : Option Addr) (e1 e2 : Nat), k ≤ us.length ∧ i = .int .i64 k ∧ (rs, os) = runF (us.take k) (rr.map Rw.xs) ∧ wr.cell? ⟨w2.heap.size, 0, none⟩ = some (.slice a1 rs.length e1) ∧ wr.cell? ⟨w2.heap.size, 1, none⟩ = some (.slice a2 os.length e2) ∧ wr.frozen? ⟨w2.heap.size, 0, none⟩ = false ∧ wr.frozen? ⟨w2.heap.size, 1, none⟩ = false ∧
        RdC wr a1 (I64 rs) ∧ Own wr w2.heap.size 3 1 a2 os.length e2 (I64 os) ∧ (∀ a, a1 = some a → a.block ≠ w2.heap.size) ∧ (∀ a, a2 = some a → a.block ≠ w2.heap.size) ∧ Below w2.heap.size w2 wr ∧ w2.heap.size < wr.heap.size) (fun i _ => us.length - (intOf i).toNat)
    case atStart =>
      refine ⟨0, List.replicate 8 0, [], some ⟨g, 0, none⟩, none, 8, 0, Nat.zero_le _, rfl, rfl, by go_simp, by go_simp, by go_simp, by go_simp, (HOG.out.later (by (repeat (first | with_reducible exact Kp.refl _ _ | (with_reducible refine Kp.rng ?_ (by assumption) ?_) | (with_reducible refine Kp.below ?_ (by assumption)) | (with_reducible refine Kp.grown ?_ (by assumption) ?_) | (with_reducible refine Kp.alloc ?_ _) | (with_reducible refine Kp.drew ?_) | (with_reducible refine Kp.drewN ?_ _) | (with_reducible refine Kp.setCell ?_ _ ?_))) <;> (first | omega | (simp; done) | (simp; omega)))).rd, Own.nil _ _ _ _, ?_, (fun a h => by cases h), (by (repeat (first | with_reducible exact Below.refl _ _ | (with_reducible refine bel_next ?_ ?_ (by assumption)) | (with_reducible refine Below.alloc ?_ ?_ _) | (with_reducible refine Below.drew ?_) | (with_reducible refine below_drewN ?_ _) | (with_reducible refine Below.setCell ?_ ?_ _))) <;> (first | omega | (simp; done) | (simp; omega))), by simp⟩
      intro a h
      obtain rfl : _ = a := Option.some.inj h
      simp; omega
    case round =>
      obtain ⟨k, rs, os, a1, a2, e1, e2, hk, rfl, hf, q0, q1, f0, f1, hrr, hown, hn1, hn2, hbw, hB⟩ := hrel
      have hl := runF_len us (rr.map Rw.xs) k
      rw [← hf] at hl
      simp only at hl
      have HL := Lib.hid hl.1
      have hl2 := hl.2
      have hm1 : rs.length ≤ 1048576 := by rw [hl.1]; omega
      have hm2 : os.length ≤ 1048576 := by omega
      have HF := Lib.hid hf
      have H1 := Lib.hid hrr
      have H2 := Lib.hid hown
      have N1 := Lib.hid hn1
      have N2 := Lib.hid hn2
      have zw := hbw.size
      clear hl hf hrr hown hn1 hn2
      by_cases hlt : k < us.length
      · obtain ⟨b, off, op, dst, sa, sb, sc, sn, rfl, hbl, hx, c0, c1, c2, c3, c4, c5⟩ := (show RdC wr a (stCells us) from HRU.out.below (by (repeat (first | with_reducible exact Below.refl _ _ | (with_reducible refine bel_next ?_ ?_ (by assumption)) | (with_reducible refine Below.alloc ?_ ?_ _) | (with_reducible refine Below.drew ?_) | (with_reducible refine below_drewN ?_ _) | (with_reducible refine Below.setCell ?_ ?_ _))) <;> (first | omega | (simp; done) | (simp; omega)))).st k hlt
        have hsn := runF_snoc (xss := (rr.map Rw.xs)) hx
        rw [← HF.out] at hsn
        simp only at hsn
        have HSN := Lib.hid hsn
        clear hsn hx
        have hbb : b ≠ w2.heap.size := by have := HBA.out _ rfl; simp at this; omega
        go_wp2_with fail
        go_region_with (go_at_call 54; refine (sStepState_any rs os a1 a2 e1 e2 ⟨op, dst, sa, sb, sc, sn⟩ rr _ _ _ hm1 hm2 (H1.out.below (by (repeat (first | with_reducible exact Below.refl _ _ | (with_reducible refine bel_next ?_ ?_ (by assumption)) | (with_reducible refine Below.alloc ?_ ?_ _) | (with_reducible refine Below.drew ?_) | (with_reducible refine below_drewN ?_ _) | (with_reducible refine Below.setCell ?_ ?_ _))) <;> (first | omega | (simp; done) | (simp; omega)))) (H2.out.rd.below (by (repeat (first | with_reducible exact Below.refl _ _ | (with_reducible refine bel_next ?_ ?_ (by assumption)) | (with_reducible refine Below.alloc ?_ ?_ _) | (with_reducible refine Below.drew ?_) | (with_reducible refine below_drewN ?_ _) | (with_reducible refine Below.setCell ?_ ?_ _))) <;> (first | omega | (simp; done) | (simp; omega)))) hmr hml (HRI.out.below (by (repeat (first | with_reducible exact Below.refl _ _ | (with_reducible refine bel_next ?_ ?_ (by assumption)) | (with_reducible refine Below.alloc ?_ ?_ _) | (with_reducible refine Below.drew ?_) | (with_reducible refine below_drewN ?_ _) | (with_reducible refine Below.setCell ?_ ?_ _))) <;> (first | omega | (simp; done) | (simp; omega))))).mono ?_; rintro e w3 ⟨g1, d1, g2, d2, rfl, ho1, ho2, hne, hb3⟩; have z3 := hb3.size; (try simp at z3); have y3 : w2.heap.size < w3.heap.size := (by omega); have ge1 := ho1.ge; have ge2 := ho2.ge; (try simp at ge1); (try simp at ge2); have k3_0 := bel_keeps hb3 (b := w2.heap.size) (o := 0) (v := .slice a1 rs.length e1) (by first | (go_simp; done) | assumption); have k3_1 := bel_keeps hb3 (b := w2.heap.size) (o := 1) (v := .slice a2 os.length e2) (by first | (go_simp; done) | assumption); have k3_2 := bel_keeps hb3 (b := b) (o := off + k * 6) (v := .int .i64 op) (by first | (go_simp; done) | assumption); have k3_3 := bel_keeps hb3 (b := b) (o := off + k * 6 + 1) (v := .int .i64 dst) (by first | (go_simp; done) | assumption); have k3_4 := bel_keeps hb3 (b := b) (o := off + k * 6 + 2) (v := .int .i64 sa) (by first | (go_simp; done) | assumption); have k3_5 := bel_keeps hb3 (b := b) (o := off + k * 6 + 3) (v := .int .i64 sb) (by first | (go_simp; done) | assumption); have k3_6 := bel_keeps hb3 (b := b) (o := off + k * 6 + 4) (v := .int .i64 sc) (by first | (go_simp; done) | assumption); have k3_7 := bel_keeps hb3 (b := b) (o := off + k * 6 + 5) (v := .int .i64 sn) (by first | (go_simp; done) | assumption); have g3_0 := bel_free hb3 (b := w2.heap.size) (o := 0) (by first | omega | (simp; done) | (simp; omega)) (by first | (go_simp; done) | assumption); have g3_1 := bel_free hb3 (b := w2.heap.size) (o := 1) (by first | omega | (simp; done) | (simp; omega)) (by first | (go_simp; done) | assumption))
        all_goals go_wp2_with fail
        all_goals go_roundw
        all_goals first
          | (show _ < _; simp [intOf]; omega)
          | (refine ⟨k + 1, stepRegs rs os ⟨op, dst, sa, sb, sc, sn⟩ (rr.map Rw.xs), stepOuts rs os ⟨op, dst, sa, sb, sc, sn⟩ (rr.map Rw.xs), some ⟨g1, 0, none⟩, some ⟨g2, 0, none⟩, d1, d2, by omega, by go_num, HSN.out.symm, (by first | (go_simp; done) | assumption), (by first | (go_simp; done) | assumption), (by first | (go_simp; done) | assumption), (by first | (go_simp; done) | assumption), (ho1.later (by (repeat (first | with_reducible exact Kp.refl _ _ | (with_reducible refine Kp.rng ?_ (by assumption) ?_) | (with_reducible refine Kp.below ?_ (by assumption)) | (with_reducible refine Kp.grown ?_ (by assumption) ?_) | (with_reducible refine Kp.alloc ?_ _) | (with_reducible refine Kp.drew ?_) | (with_reducible refine Kp.drewN ?_ _) | (with_reducible refine Kp.setCell ?_ _ ?_))) <;> (first | omega | (simp; done) | (simp; omega)))).rd, (ho2.lo (by first | omega | (simp; done) | (simp; omega))).later (by (repeat (first | with_reducible exact Kp.refl _ _ | (with_reducible refine Kp.rng ?_ (by assumption) ?_) | (with_reducible refine Kp.below ?_ (by assumption)) | (with_reducible refine Kp.grown ?_ (by assumption) ?_) | (with_reducible refine Kp.alloc ?_ _) | (with_reducible refine Kp.drew ?_) | (with_reducible refine Kp.drewN ?_ _) | (with_reducible refine Kp.setCell ?_ _ ?_))) <;> (first | omega | (simp; done) | (simp; omega))), ?_, ?_, (by (repeat (first | with_reducible exact Below.refl _ _ | (with_reducible refine bel_next ?_ ?_ (by assumption)) | (with_reducible refine Below.alloc ?_ ?_ _) | (with_reducible refine Below.drew ?_) | (with_reducible refine below_drewN ?_ _) | (with_reducible refine Below.setCell ?_ ?_ _))) <;> (first | omega | (simp; done) | (simp; omega))), by first | omega | (simp [World.setCell]; omega)⟩ <;> (intro a h; obtain rfl : _ = a := Option.some.inj h; simp; omega))
      · have HK : Hid (os = runOuts us (rr.map Rw.xs) true) := by
          show _ = _
          have := HF.out
          rw [List.take_of_length_le (by omega)] at this
          simp [runOuts, runOk, HIN.out, ← this]
        go_wp2_with fail
        go_ret2
        refine ⟨a2, e2, (by rw [← HK.out]; rfl), ?_, (by (repeat (first | with_reducible exact Below.refl _ _ | (with_reducible refine bel_next ?_ ?_ (by assumption)) | (with_reducible refine Below.alloc ?_ ?_ _) | (with_reducible refine Below.drew ?_) | (with_reducible refine below_drewN ?_ _) | (with_reducible refine Below.setCell ?_ ?_ _))) <;> (first | omega | (simp; done) | (simp; omega)))⟩
        rw [← HK.out]
        exact (H2.out.lo (by omega))

set_option maxRecDepth 20000 in
set_option maxHeartbeats 4000000 in
theorem iRunProgram_any (xs us : List St) (ok : Bool) (hv : IsUnr xs us ok) (ad : Option Addr) (cp : Nat) (w : World) (hm : xs.length ≤ maxLen) (hcp : xs.length ≤ cp) (hcm : cp ≤ maxLen) (hr : RdC w ad (stCells xs)) (rr : List Rw) (ai : Option Addr) (ci : Nat) (hmr : rr.length ≤ 1048576) (hml : rowsLe rr) (hri : RdR w ai rr) :
    Calls Try.prog 64 #[.slice ad xs.length cp, .slice ai rr.length ci] w fun e w' => ∃ a c, e = .returned (.tuple #[.slice a (runOuts us (rr.map Rw.xs) ok).length c, .bool (runOk ok (rr.map Rw.xs))]) ∧ Own w' w.heap.size 3 1 a (runOuts us (rr.map Rw.xs) ok).length c (I64 (runOuts us (rr.map Rw.xs) ok)) ∧ Below w.heap.size w w' := by
  have hmm := hm
  unfold maxLen at hm
  have HR := Lib.hid hr
  have HRI := Lib.hid hri
  have hMr : rr.length ≤ maxLen := by unfold maxLen; omega
  have h120 := unr_len hv
  have HV := Lib.hid hv
  clear hr hv hri
  cases hin : inputsOk (rr.map Rw.xs)
  · have HIN := Lib.hid hin
    have HF : Hid (runOk ok (rr.map Rw.xs) = false) := by show _ = _; simp [runOk, hin]
    have HF2 : Hid (runOuts us (rr.map Rw.xs) ok = []) := by show _ = _; simp [runOuts, runOk, hin]
    rw [HF.out, HF2.out]
    clear hin HF HF2
    cases ok
    all_goals
      go_enter Try.func64, Try.ntmps64
      go_wp2_with (first | (go_at_call 41; refine (iUnroll_any xs us _ HV.out _ _ _ hmm hcp hcm HR.out).mono ?_; rintro e w1 ⟨a, c, rfl, ho, hb1⟩) | (go_at_call 77; refine (iInputsOk_any rr _ _ _ hMr hml (HRI.out.below (by (repeat (first | with_reducible exact Below.refl _ _ | (with_reducible refine bel_next ?_ ?_ (by assumption)) | (with_reducible refine Below.alloc ?_ ?_ _) | (with_reducible refine Below.drew ?_) | (with_reducible refine below_drewN ?_ _) | (with_reducible refine Below.setCell ?_ ?_ _))) <;> (first | omega | (simp; done) | (simp; omega))))).mono ?_; rintro e _ ⟨rfl, rfl⟩; rw [HIN.out]))
      go_ret2
      exact ⟨none, 0, rfl, Own.nil _ _ _ _, (by (repeat (first | with_reducible exact Below.refl _ _ | (with_reducible refine bel_next ?_ ?_ (by assumption)) | (with_reducible refine Below.alloc ?_ ?_ _) | (with_reducible refine Below.drew ?_) | (with_reducible refine below_drewN ?_ _) | (with_reducible refine Below.setCell ?_ ?_ _))) <;> (first | omega | (simp; done) | (simp; omega)))⟩
  have HIN := Lib.hid hin
  have HT : Hid (runOk true (rr.map Rw.xs) = true) := by show _ = _; simp [runOk, hin]
  clear hin
  cases ok
  · go_enter Try.func64, Try.ntmps64
    go_wp2_with (go_at_call 41; refine (iUnroll_any xs us _ HV.out _ _ _ hmm hcp hcm HR.out).mono ?_; rintro e w1 ⟨a, c, rfl, ho, hb1⟩)
    go_ret2
    exact ⟨none, 0, rfl, Own.nil _ _ _ _, (by (repeat (first | with_reducible exact Below.refl _ _ | (with_reducible refine bel_next ?_ ?_ (by assumption)) | (with_reducible refine Below.alloc ?_ ?_ _) | (with_reducible refine Below.drew ?_) | (with_reducible refine below_drewN ?_ _) | (with_reducible refine Below.setCell ?_ ?_ _))) <;> (first | omega | (simp; done) | (simp; omega)))⟩
  · rw [HT.out]
    go_enter Try.func64, Try.ntmps64
    go_wp2_with (first | (go_at_call 41; refine (iUnroll_any xs us _ HV.out _ _ _ hmm hcp hcm HR.out).mono ?_; rintro e w1 ⟨a, c, rfl, ho, hb1⟩; have z1 := hb1.size; have HRU := Lib.hid ho.rd; have HBA : Hid (∀ x, a = some x → x.block < w1.heap.size) := fun x hx => (ho.blk x hx).2.2.2; clear ho) | (go_at_call 77; refine (iInputsOk_any rr _ _ _ hMr hml (HRI.out.below (by (repeat (first | with_reducible exact Below.refl _ _ | (with_reducible refine bel_next ?_ ?_ (by assumption)) | (with_reducible refine Below.alloc ?_ ?_ _) | (with_reducible refine Below.drew ?_) | (with_reducible refine below_drewN ?_ _) | (with_reducible refine Below.setCell ?_ ?_ _))) <;> (first | omega | (simp; done) | (simp; omega))))).mono ?_; rintro e _ ⟨rfl, rfl⟩; rw [HIN.out]) | (go_at_call 74; refine (iStateNew_any _).mono ?_; rintro e w2 ⟨g, rfl, hog, hb2⟩; have z2 := hb2.size; have qg := hog.ge; have HOG := Lib.hid hog; clear hog))
    go_loopw [26] (fun i wr => ∃ (k : Nat) (rs os : List Int) (a1 a2 : Option Addr) (e1 e2 : Nat), k ≤ us.length ∧ i = .int .i64 k ∧ (rs, os) = runF (us.take k) (rr.map Rw.xs) ∧ wr.cell? ⟨w2.heap.size, 0, none⟩ = some (.slice a1 rs.length e1) ∧ wr.cell? ⟨w2.heap.size, 1, none⟩ = some (.slice a2 os.length e2) ∧ wr.frozen? ⟨w2.heap.size, 0, none⟩ = false ∧ wr.frozen? ⟨w2.heap.size, 1, none⟩ = false ∧
        RdC wr a1 (I64 rs) ∧ Own wr w2.heap.size 3 1 a2 os.length e2 (I64 os) ∧ (∀ a, a1 = some a → a.block ≠ w2.heap.size) ∧ (∀ a, a2 = some a → a.block ≠ w2.heap.size) ∧ Below w2.heap.size w2 wr ∧ w2.heap.size < wr.heap.size) (fun i _ => us.length - (intOf i).toNat)
    case atStart =>
      refine ⟨0, List.replicate 8 0, [], some ⟨g, 0, none⟩, none, 8, 0, Nat.zero_le _, rfl, rfl, by go_simp, by go_simp, by go_simp, by go_simp, (HOG.out.later (by (repeat (first | with_reducible exact Kp.refl _ _ | (with_reducible refine Kp.rng ?_ (by assumption) ?_) | (with_reducible refine Kp.below ?_ (by assumption)) | (with_reducible refine Kp.grown ?_ (by assumption) ?_) | (with_reducible refine Kp.alloc ?_ _) | (with_reducible refine Kp.drew ?_) | (with_reducible refine Kp.drewN ?_ _) | (with_reducible refine Kp.setCell ?_ _ ?_))) <;> (first | omega | (simp; done) | (simp; omega)))).rd, Own.nil _ _ _ _, ?_, (fun a h => by cases h), (by (repeat (first | with_reducible exact Below.refl _ _ | (with_reducible refine bel_next ?_ ?_ (by assumption)) | (with_reducible refine Below.alloc ?_ ?_ _) | (with_reducible refine Below.drew ?_) | (with_reducible refine below_drewN ?_ _) | (with_reducible refine Below.setCell ?_ ?_ _))) <;> (first | omega | (simp; done) | (simp; omega))), by simp⟩
      intro a h
      obtain rfl : _ = a := Option.some.inj h
      simp; omega
    case round =>
      obtain ⟨k, rs, os, a1, a2, e1, e2, hk, rfl, hf, q0, q1, f0, f1, hrr, hown, hn1, hn2, hbw, hB⟩ := hrel
      have hl := runF_len us (rr.map Rw.xs) k
      rw [← hf] at hl
      simp only at hl
      have HL := Lib.hid hl.1
      have hl2 := hl.2
      have hm1 : rs.length ≤ 1048576 := by rw [hl.1]; omega
      have hm2 : os.length ≤ 1048576 := by omega
      have HF := Lib.hid hf
      have H1 := Lib.hid hrr
      have H2 := Lib.hid hown
      have N1 := Lib.hid hn1
      have N2 := Lib.hid hn2
      have zw := hbw.size
      clear hl hf hrr hown hn1 hn2
      by_cases hlt : k < us.length
      · obtain ⟨b, off, op, dst, sa, sb, sc, sn, rfl, hbl, hx, c0, c1, c2, c3, c4, c5⟩ := (show RdC wr a (stCells us) from HRU.out.below (by (repeat (first | with_reducible exact Below.refl _ _ | (with_reducible refine bel_next ?_ ?_ (by assumption)) | (with_reducible refine Below.alloc ?_ ?_ _) | (with_reducible refine Below.drew ?_) | (with_reducible refine below_drewN ?_ _) | (with_reducible refine Below.setCell ?_ ?_ _))) <;> (first | omega | (simp; done) | (simp; omega)))).st k hlt
        have hsn := runF_snoc (xss := (rr.map Rw.xs)) hx
        rw [← HF.out] at hsn
        simp only at hsn
        have HSN := Lib.hid hsn
        clear hsn hx
        go_wp2_with (first | (go_at_call 57; refine (iStepState_any rs os a1 a2 e1 e2 ⟨op, dst, sa, sb, sc, sn⟩ rr _ _ _ hm1 hm2 (H1.out.below (by (repeat (first | with_reducible exact Below.refl _ _ | (with_reducible refine bel_next ?_ ?_ (by assumption)) | (with_reducible refine Below.alloc ?_ ?_ _) | (with_reducible refine Below.drew ?_) | (with_reducible refine below_drewN ?_ _) | (with_reducible refine Below.setCell ?_ ?_ _))) <;> (first | omega | (simp; done) | (simp; omega)))) (H2.out.rd.below (by (repeat (first | with_reducible exact Below.refl _ _ | (with_reducible refine bel_next ?_ ?_ (by assumption)) | (with_reducible refine Below.alloc ?_ ?_ _) | (with_reducible refine Below.drew ?_) | (with_reducible refine below_drewN ?_ _) | (with_reducible refine Below.setCell ?_ ?_ _))) <;> (first | omega | (simp; done) | (simp; omega)))) hmr hml (HRI.out.below (by (repeat (first | with_reducible exact Below.refl _ _ | (with_reducible refine bel_next ?_ ?_ (by assumption)) | (with_reducible refine Below.alloc ?_ ?_ _) | (with_reducible refine Below.drew ?_) | (with_reducible refine below_drewN ?_ _) | (with_reducible refine Below.setCell ?_ ?_ _))) <;> (first | omega | (simp; done) | (simp; omega))))).mono ?_; rintro e w3 ⟨g1, d1, g2, d2, rfl, ho1, ho2, hne, hb3⟩; have z3 := hb3.size; (try simp at z3); have y3 : w2.heap.size < w3.heap.size := (by omega); have ge1 := ho1.ge; have ge2 := ho2.ge; (try simp at ge1); (try simp at ge2); have k3_0 := bel_keeps hb3 (b := w2.heap.size) (o := 0) (v := .slice a1 rs.length e1) (by first | (go_simp; done) | assumption); have k3_1 := bel_keeps hb3 (b := w2.heap.size) (o := 1) (v := .slice a2 os.length e2) (by first | (go_simp; done) | assumption); have g3_0 := bel_free hb3 (b := w2.heap.size) (o := 0) (by first | omega | (simp; done) | (simp; omega)) (by first | (go_simp; done) | assumption); have g3_1 := bel_free hb3 (b := w2.heap.size) (o := 1) (by first | omega | (simp; done) | (simp; omega)) (by first | (go_simp; done) | assumption)))
        all_goals go_roundw
        all_goals first
          | (show _ < _; simp [intOf]; omega)
          | (refine ⟨k + 1, stepRegs rs os ⟨op, dst, sa, sb, sc, sn⟩ (rr.map Rw.xs), stepOuts rs os ⟨op, dst, sa, sb, sc, sn⟩ (rr.map Rw.xs), some ⟨g1, 0, none⟩, some ⟨g2, 0, none⟩, d1, d2, by omega, by go_num, HSN.out.symm, (by first | (go_simp; done) | assumption), (by first | (go_simp; done) | assumption), (by first | (go_simp; done) | assumption), (by first | (go_simp; done) | assumption), (ho1.later (by (repeat (first | with_reducible exact Kp.refl _ _ | (with_reducible refine Kp.rng ?_ (by assumption) ?_) | (with_reducible refine Kp.below ?_ (by assumption)) | (with_reducible refine Kp.grown ?_ (by assumption) ?_) | (with_reducible refine Kp.alloc ?_ _) | (with_reducible refine Kp.drew ?_) | (with_reducible refine Kp.drewN ?_ _) | (with_reducible refine Kp.setCell ?_ _ ?_))) <;> (first | omega | (simp; done) | (simp; omega)))).rd, (ho2.lo (by first | omega | (simp; done) | (simp; omega))).later (by (repeat (first | with_reducible exact Kp.refl _ _ | (with_reducible refine Kp.rng ?_ (by assumption) ?_) | (with_reducible refine Kp.below ?_ (by assumption)) | (with_reducible refine Kp.grown ?_ (by assumption) ?_) | (with_reducible refine Kp.alloc ?_ _) | (with_reducible refine Kp.drew ?_) | (with_reducible refine Kp.drewN ?_ _) | (with_reducible refine Kp.setCell ?_ _ ?_))) <;> (first | omega | (simp; done) | (simp; omega))), ?_, ?_, (by (repeat (first | with_reducible exact Below.refl _ _ | (with_reducible refine bel_next ?_ ?_ (by assumption)) | (with_reducible refine Below.alloc ?_ ?_ _) | (with_reducible refine Below.drew ?_) | (with_reducible refine below_drewN ?_ _) | (with_reducible refine Below.setCell ?_ ?_ _))) <;> (first | omega | (simp; done) | (simp; omega))), by first | omega | (simp [World.setCell]; omega)⟩ <;> (intro a h; obtain rfl : _ = a := Option.some.inj h; simp; omega))
      · have HK : Hid (os = runOuts us (rr.map Rw.xs) true) := by
          show _ = _
          have := HF.out
          rw [List.take_of_length_le (by omega)] at this
          simp [runOuts, runOk, HIN.out, ← this]
        go_wp2_with fail
        go_ret2
        refine ⟨a2, e2, (by rw [← HK.out]; rfl), ?_, (by (repeat (first | with_reducible exact Below.refl _ _ | (with_reducible refine bel_next ?_ ?_ (by assumption)) | (with_reducible refine Below.alloc ?_ ?_ _) | (with_reducible refine Below.drew ?_) | (with_reducible refine below_drewN ?_ _) | (with_reducible refine Below.setCell ?_ ?_ _))) <;> (first | omega | (simp; done) | (simp; omega)))⟩
        rw [← HK.out]
        exact (H2.out.lo (by omega))

end Go.Proofs.Ytfeffofoofmgcaa

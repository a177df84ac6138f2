/- The walk of the law FnLoopRuns. -/
import Derived.Test.YtfeffofoofmgcaaRunFacts
import Derived.Test.YtfeffofoofmgcaaProgFacts
namespace Go.Proofs.Ytfeffofoofmgcaa
open Go.RowKit
set_option linter.unusedVariables false
set_option linter.unusedSimpArgs false

theorem iRunProgram_n (xs us : List St) (ok : Bool) (hv : IsUnr xs us ok) (ad : Option Addr) (cp : Nat) (w : World) (hm : xs.length ≤ maxLen) (hcp : xs.length ≤ cp) (hcm : cp ≤ maxLen) (hr : RdC w ad (stCells xs)) (rr : List Rw) (nn : Nat) (xss : List (List Int)) (ai : Option Addr) (ci : Nat) (hn : rr.length = nn) (hx : rr.map Rw.xs = xss) (hmr : nn ≤ 1048576) (hml : rowsLe rr) (hri : RdR w ai rr) :
    Calls Try.prog 64 #[.slice ad xs.length cp, .slice ai nn ci] w fun e w' => ∃ a c, e = .returned (.tuple #[.slice a (runOuts us xss ok).length c, .bool (runOk ok xss)]) ∧ Own w' w.heap.size 3 1 a (runOuts us xss ok).length c (I64 (runOuts us xss ok)) ∧ Below w.heap.size w w' := by
  subst hn; subst hx
  exact iRunProgram_any xs us ok hv ad cp w hm hcp hcm hr rr ai ci hmr hml hri
theorem iStepState_n (rs os : List Int) (a1 a2 : Option Addr) (c1 c2 : Nat) (s : St) (rr : List Rw) (nn : Nat) (xss : List (List Int)) (ai : Option Addr) (ci : Nat) (w : World) (hm1 : rs.length ≤ 1048576) (hm2 : os.length ≤ 1048576) (hr1 : RdC w a1 (I64 rs)) (hr2 : RdC w a2 (I64 os)) (hn : rr.length = nn) (hx : rr.map Rw.xs = xss) (hmr : nn ≤ 1048576) (hml : rowsLe rr) (hri : RdR w ai rr) :
    Calls Try.prog 57 #[.agg #[.slice a1 rs.length c1, .slice a2 os.length c2], stV s, .slice ai nn ci] w fun e w' => ∃ g1 d1 g2 d2, e = .returned (.agg #[.slice (some ⟨g1, 0, none⟩) (stepRegs rs os s xss).length d1, .slice (some ⟨g2, 0, none⟩) (stepOuts rs os s xss).length d2]) ∧
      Own w' w.heap.size 3 1 (some ⟨g1, 0, none⟩) (stepRegs rs os s xss).length d1 (I64 (stepRegs rs os s xss)) ∧ Own w' w.heap.size 3 1 (some ⟨g2, 0, none⟩) (stepOuts rs os s xss).length d2 (I64 (stepOuts rs os s xss)) ∧ g1 < g2 ∧ Below w.heap.size w w' := by
  subst hn; subst hx
  exact iStepState_any rs os a1 a2 c1 c2 s rr ai ci w hm1 hm2 hr1 hr2 hmr hml hri

set_option maxRecDepth 20000 in
set_option maxHeartbeats 8000000 in
theorem walk_FnLoopRuns (w : World) (xs : List Int) (ad : Option Addr) (c : Nat) (hm : xs.length ≤ maxLen) (hr : RdC w ad (xs.map (Value.int .u8))) (hb : ∀ x ∈ xs, 0 ≤ x ∧ x ≤ 255) :
    Calls Try.prog 19 #[.slice ad xs.length c] w fun e w' => e = .returned (.bool true) ∧ Below w.heap.size w w' := by
  unfold maxLen at hm
  by_cases hsz : xs.length ≤ 1048576
  case neg =>
    go_enter Try.func19, Try.ntmps19
    go_wp2_with (first | (go_at_call 65; go_in) | fail)
    go_ret
    exact ⟨rfl, Below.refl _ _⟩
  go_enter Try.func19, Try.ntmps19
  go_wp2_with (first | (go_at_call 65; go_in) | fail)
  refine (DrawRun_any xs ad c w hsz hr hb).mono ?_
  rintro e w1 ⟨gp, cp, ga, ca, l, rs, rfl, hp, hol, hrs5, hin, hrd, hb1⟩
  have hncp : l.length ≤ cp := hol.cap
  have hcm : cp ≤ maxLen := hol.capMax
  obtain ⟨us', hus'⟩ := hp.ur
  have hl40 := hp.len
  have hok : progOk l = true := ur_progOk (ur_mono hus' (by omega)) hl40
  obtain ⟨r2, hr2⟩ := hp.two
  have hl2 : 2 ≤ l.length := by rw [hr2]; simp
  have HOK := Lib.hid hok
  have HP := Lib.hid hp
  have HL := Lib.hid hol.rd
  have hlM : l.length ≤ maxLen := by unfold maxLen; omega
  have z1 := hb1.size
  have ge1 := hol.ge
  have H5 := Lib.hid hrs5
  have HIN := Lib.hid hin
  have HRI := Lib.hid hrd
  have hmlR : rowsLe rs := fun r hr' => by
    first | (have := (inputsOk_parts hin).2 r hr'; unfold maxLen; omega) | (obtain ⟨k, hk, rfl⟩ := List.getElem_of_mem hr'; have := (inputs_row hin hk).1; unfold maxLen; omega)
  have HML := Lib.hid hmlR
  obtain ⟨xss, hxss⟩ : ∃ x, x = rs.map Rw.xs := ⟨_, rfl⟩
  have HXS := Lib.hid hxss
  clear hp hol hok hr2 hus' hrs5 hin hrd hmlR hxss
  have hin' := HIN.out
  obtain ⟨U, hU, hSZ, hu1, hu0⟩ := unr_one HOK.out
  have HSZ := Lib.hid hSZ
  by_cases h120 : U.length ≤ 120
  case neg =>
    have HU := Lib.hid (hu0 (by omega))
    have t0 : decide ((120 : Int) < (U.length : Int)) = true := decide_eq_true (by omega)
    have HRO : Hid (runOk false xss = false) := rfl
    clear hU hSZ hu1 hu0 hin'
    go_wp2_with fail
    refine (sUnroll_any l [] false HU.out _ _ _ hlM hncp hcm (HL.out.below (by (repeat (first | with_reducible exact Below.refl _ _ | (with_reducible refine bel_next ?_ ?_ (by assumption)) | (with_reducible refine Below.alloc ?_ ?_ _) | (with_reducible refine Below.drew ?_) | (with_reducible refine below_drewN ?_ _) | (with_reducible refine Below.setCell ?_ ?_ _))) <;> (first | omega | (simp; done) | (simp; omega))))).mono ?_
    rintro e w2 ⟨a2, e2, rfl, ho2, hb2⟩
    have z2 := hb2.size
    have HO2 := Lib.hid ho2.rd
    have HBA : Hid (∀ x, a2 = some x → x.block < w2.heap.size) := fun x hx => (ho2.blk x hx).2.2.2
    clear ho2
    go_wp2_with fail
    refine (iRunProgram_n l [] false HU.out _ _ _ hlM hncp hcm (HL.out.below (by (repeat (first | with_reducible exact Below.refl _ _ | (with_reducible refine bel_next ?_ ?_ (by assumption)) | (with_reducible refine Below.alloc ?_ ?_ _) | (with_reducible refine Below.drew ?_) | (with_reducible refine below_drewN ?_ _) | (with_reducible refine Below.setCell ?_ ?_ _))) <;> (first | omega | (simp; done) | (simp; omega)))) rs 5 xss _ _ H5.out HXS.out.symm (by omega) HML.out (HRI.out.below (by (repeat (first | with_reducible exact Below.refl _ _ | (with_reducible refine bel_next ?_ ?_ (by assumption)) | (with_reducible refine Below.alloc ?_ ?_ _) | (with_reducible refine Below.drew ?_) | (with_reducible refine below_drewN ?_ _) | (with_reducible refine Below.setCell ?_ ?_ _))) <;> (first | omega | (simp; done) | (simp; omega))))).mono ?_
    rw [HRO.out]
    rintro e w3 ⟨a3, e3, rfl, ho3, hb3⟩
    have z3 := hb3.size
    go_wp2_with fail
    refine (iUnrolledSize_any l _ HSZ.out _ _ _ hlM hncp hcm (HL.out.below (by (repeat (first | with_reducible exact Below.refl _ _ | (with_reducible refine bel_next ?_ ?_ (by assumption)) | (with_reducible refine Below.alloc ?_ ?_ _) | (with_reducible refine Below.drew ?_) | (with_reducible refine below_drewN ?_ _) | (with_reducible refine Below.setCell ?_ ?_ _))) <;> (first | omega | (simp; done) | (simp; omega))))).mono ?_
    rintro e w4 ⟨rfl, hb4⟩
    have z4 := hb4.size
    go_wp2_with fail
    go_ret
    exact ⟨rfl, (by (repeat (first | with_reducible exact Below.refl _ _ | (with_reducible refine bel_next ?_ ?_ (by assumption)) | (with_reducible refine Below.alloc ?_ ?_ _) | (with_reducible refine Below.drew ?_) | (with_reducible refine below_drewN ?_ _) | (with_reducible refine Below.setCell ?_ ?_ _))) <;> (first | omega | (simp; done) | (simp; omega)))⟩
  have HU := Lib.hid (hu1 h120)
  have hpl := ur_plains hU
  have hra := runF_all hin' U hpl
  rw [← HXS.out] at hra hin'
  have HRO : Hid (runOk true xss = true) := by show _ = _; simp [runOk, hin']
  obtain ⟨D, hD⟩ : ∃ d, d = runOuts U xss true := ⟨_, rfl⟩
  have hD2 : D = (runF U xss).2 := by rw [hD]; simp [runOuts, HRO.out]
  rw [← hD2] at hra
  obtain ⟨oc, hoc⟩ : ∃ q, q = outCount U true := ⟨_, rfl⟩
  have hocl : oc = (D.length : Int) := by rw [hoc, hra.2]; simp [outCount]
  have tl : ((D.length : Int) == oc) = true := by simp [hocl]
  have hDm : D.length ≤ 120 := by rw [hra.2]; exact Nat.le_trans (cntOut_le U) h120
  have HD := Lib.hid hD
  have HD2 := Lib.hid hD2
  have HQ := Lib.hid hoc
  clear hU hSZ hu1 hu0 hpl hra hin' hD hD2 hoc hocl
  go_wp2_with fail
  refine (sUnroll_any l U true HU.out _ _ _ hlM hncp hcm (HL.out.below (by (repeat (first | with_reducible exact Below.refl _ _ | (with_reducible refine bel_next ?_ ?_ (by assumption)) | (with_reducible refine Below.alloc ?_ ?_ _) | (with_reducible refine Below.drew ?_) | (with_reducible refine below_drewN ?_ _) | (with_reducible refine Below.setCell ?_ ?_ _))) <;> (first | omega | (simp; done) | (simp; omega))))).mono ?_
  rintro e w2 ⟨a2, e2, rfl, ho2, hb2⟩
  have z2 := hb2.size
  have HO2 := Lib.hid ho2.rd
  have HBA : Hid (∀ x, a2 = some x → x.block < w2.heap.size) := fun x hx => (ho2.blk x hx).2.2.2
  clear ho2
  go_wp2_with fail
  refine (iRunProgram_n l U true HU.out _ _ _ hlM hncp hcm (HL.out.below (by (repeat (first | with_reducible exact Below.refl _ _ | (with_reducible refine bel_next ?_ ?_ (by assumption)) | (with_reducible refine Below.alloc ?_ ?_ _) | (with_reducible refine Below.drew ?_) | (with_reducible refine below_drewN ?_ _) | (with_reducible refine Below.setCell ?_ ?_ _))) <;> (first | omega | (simp; done) | (simp; omega)))) rs 5 xss _ _ H5.out HXS.out.symm (by omega) HML.out (HRI.out.below (by (repeat (first | with_reducible exact Below.refl _ _ | (with_reducible refine bel_next ?_ ?_ (by assumption)) | (with_reducible refine Below.alloc ?_ ?_ _) | (with_reducible refine Below.drew ?_) | (with_reducible refine below_drewN ?_ _) | (with_reducible refine Below.setCell ?_ ?_ _))) <;> (first | omega | (simp; done) | (simp; omega))))).mono ?_
  rw [HRO.out, ← HD.out]
  rintro e w3 ⟨a3, e3, rfl, ho3, hb3⟩
  have z3 := hb3.size
  have HO3 := Lib.hid ho3
  clear ho3
  go_wp2_with fail
  refine (iStateNew_any _).mono ?_
  rintro e w4 ⟨g, rfl, hog, hb4⟩
  have z4 := hb4.size
  have qg := hog.ge
  have HOG := Lib.hid hog
  clear hog
  go_wp2_with fail
  go_loopw [10] (fun i wr => ∃ (k : Nat) (rs' os : List Int) (a1 a2' : Option Addr) (e1 e2' : Nat), k ≤ U.length ∧ i = .int .i64 k ∧ (rs', os) = runF (U.take k) xss ∧ wr.cell? ⟨w4.heap.size, 0, none⟩ = some (.slice a1 rs'.length e1) ∧ wr.cell? ⟨w4.heap.size, 1, none⟩ = some (.slice a2' os.length e2') ∧ wr.frozen? ⟨w4.heap.size, 0, none⟩ = false ∧ wr.frozen? ⟨w4.heap.size, 1, none⟩ = false ∧
        RdC wr a1 (I64 rs') ∧ Own wr w4.heap.size 3 1 a2' os.length e2' (I64 os) ∧ (∀ a, a1 = some a → a.block ≠ w4.heap.size) ∧ (∀ a, a2' = some a → a.block ≠ w4.heap.size) ∧ Below w4.heap.size w4 wr ∧ w4.heap.size < wr.heap.size) (fun i _ => U.length - (intOf i).toNat)
  case atStart =>
    refine ⟨0, List.replicate 8 0, [], some ⟨g, 0, none⟩, none, 8, 0, Nat.zero_le _, rfl, rfl, by go_simp, by go_simp, by go_simp, by go_simp, (HOG.out.later (by (repeat (first | with_reducible exact Kp.refl _ _ | (with_reducible refine Kp.rng ?_ (by assumption) ?_) | (with_reducible refine Kp.below ?_ (by assumption)) | (with_reducible refine Kp.grown ?_ (by assumption) ?_) | (with_reducible refine Kp.alloc ?_ _) | (with_reducible refine Kp.drew ?_) | (with_reducible refine Kp.drewN ?_ _) | (with_reducible refine Kp.setCell ?_ _ ?_))) <;> (first | omega | (simp; done) | (simp; omega)))).rd, Own.nil _ _ _ _, ?_, (fun a h => by cases h), (by (repeat (first | with_reducible exact Below.refl _ _ | (with_reducible refine bel_next ?_ ?_ (by assumption)) | (with_reducible refine Below.alloc ?_ ?_ _) | (with_reducible refine Below.drew ?_) | (with_reducible refine below_drewN ?_ _) | (with_reducible refine Below.setCell ?_ ?_ _))) <;> (first | omega | (simp; done) | (simp; omega))), by simp⟩
    intro a h
    obtain rfl : _ = a := Option.some.inj h
    simp; omega
  case round =>
    obtain ⟨k, rs', os, a1, a2', e1, e2', hk, rfl, hf, q0, q1, f0, f1, hrr, hown, hn1, hn2, hbw, hB⟩ := hrel
    have hl := runF_len U xss k
    rw [← hf] at hl
    simp only at hl
    have hl2 := hl.2
    have hm1 : rs'.length ≤ 1048576 := by rw [hl.1]; omega
    have hm2 : os.length ≤ 1048576 := by omega
    have HF := Lib.hid hf
    have H1 := Lib.hid hrr
    have H2 := Lib.hid hown
    have N1 := Lib.hid hn1
    have N2 := Lib.hid hn2
    have zw := hbw.size
    clear hl hf hrr hown hn1 hn2
    by_cases hlt : k < U.length
    · obtain ⟨b, off, op, dst, sa, sb, sc, sn, rfl, hbl, hx, c0, c1, c2, c3, c4, c5⟩ := (show RdC wr a2 (stCells U) from HO2.out.below (by (repeat (first | with_reducible exact Below.refl _ _ | (with_reducible refine bel_next ?_ ?_ (by assumption)) | (with_reducible refine Below.alloc ?_ ?_ _) | (with_reducible refine Below.drew ?_) | (with_reducible refine below_drewN ?_ _) | (with_reducible refine Below.setCell ?_ ?_ _))) <;> (first | omega | (simp; done) | (simp; omega)))).st k hlt
      have hsn := runF_snoc (xss := xss) hx
      rw [← HF.out] at hsn
      simp only at hsn
      have HSN := Lib.hid hsn
      clear hsn hx
      have hbb : b ≠ w4.heap.size := by have := HBA.out _ rfl; simp at this; omega
      go_wp2_with fail
      go_region_with (go_at_call 57; refine (iStepState_n rs' os a1 a2' e1 e2' ⟨op, dst, sa, sb, sc, sn⟩ rs 5 xss _ _ _ hm1 hm2 (H1.out.below (by (repeat (first | with_reducible exact Below.refl _ _ | (with_reducible refine bel_next ?_ ?_ (by assumption)) | (with_reducible refine Below.alloc ?_ ?_ _) | (with_reducible refine Below.drew ?_) | (with_reducible refine below_drewN ?_ _) | (with_reducible refine Below.setCell ?_ ?_ _))) <;> (first | omega | (simp; done) | (simp; omega)))) (H2.out.rd.below (by (repeat (first | with_reducible exact Below.refl _ _ | (with_reducible refine bel_next ?_ ?_ (by assumption)) | (with_reducible refine Below.alloc ?_ ?_ _) | (with_reducible refine Below.drew ?_) | (with_reducible refine below_drewN ?_ _) | (with_reducible refine Below.setCell ?_ ?_ _))) <;> (first | omega | (simp; done) | (simp; omega)))) H5.out HXS.out.symm (by omega) HML.out (HRI.out.below (by (repeat (first | with_reducible exact Below.refl _ _ | (with_reducible refine bel_next ?_ ?_ (by assumption)) | (with_reducible refine Below.alloc ?_ ?_ _) | (with_reducible refine Below.drew ?_) | (with_reducible refine below_drewN ?_ _) | (with_reducible refine Below.setCell ?_ ?_ _))) <;> (first | omega | (simp; done) | (simp; omega))))).mono ?_; rintro e w5 ⟨g1, d1, g2, d2, rfl, ho1, ho2, hne, hb5⟩; have z5 := hb5.size; (try simp at z5); have y5 : w4.heap.size < w5.heap.size := (by omega); have ge1 := ho1.ge; have ge2 := ho2.ge; (try simp at ge1); (try simp at ge2); have k5_0 := bel_keeps hb5 (b := w4.heap.size) (o := 0) (v := .slice a1 rs'.length e1) (by first | (go_simp; done) | assumption); have k5_1 := bel_keeps hb5 (b := w4.heap.size) (o := 1) (v := .slice a2' os.length e2') (by first | (go_simp; done) | assumption); have g5_0 := bel_free hb5 (b := w4.heap.size) (o := 0) (by first | omega | (simp; done) | (simp; omega)) (by first | (go_simp; done) | assumption); have g5_1 := bel_free hb5 (b := w4.heap.size) (o := 1) (by first | omega | (simp; done) | (simp; omega)) (by first | (go_simp; done) | assumption))
      all_goals go_wp2_with fail
      all_goals go_roundw
      all_goals first
        | (show _ < _; simp [intOf]; omega)
        | (refine ⟨k + 1, stepRegs rs' os ⟨op, dst, sa, sb, sc, sn⟩ xss, stepOuts rs' os ⟨op, dst, sa, sb, sc, sn⟩ xss, some ⟨g1, 0, none⟩, some ⟨g2, 0, none⟩, d1, d2, by omega, by go_num, HSN.out.symm, (by first | (go_simp; done) | assumption), (by first | (go_simp; done) | assumption), (by first | (go_simp; done) | assumption), (by first | (go_simp; done) | assumption), (ho1.later (by (repeat (first | with_reducible exact Kp.refl _ _ | (with_reducible refine Kp.rng ?_ (by assumption) ?_) | (with_reducible refine Kp.below ?_ (by assumption)) | (with_reducible refine Kp.grown ?_ (by assumption) ?_) | (with_reducible refine Kp.alloc ?_ _) | (with_reducible refine Kp.drew ?_) | (with_reducible refine Kp.drewN ?_ _) | (with_reducible refine Kp.setCell ?_ _ ?_))) <;> (first | omega | (simp; done) | (simp; omega)))).rd, (ho2.lo (by first | omega | (simp; done) | (simp; omega))).later (by (repeat (first | with_reducible exact Kp.refl _ _ | (with_reducible refine Kp.rng ?_ (by assumption) ?_) | (with_reducible refine Kp.below ?_ (by assumption)) | (with_reducible refine Kp.grown ?_ (by assumption) ?_) | (with_reducible refine Kp.alloc ?_ _) | (with_reducible refine Kp.drew ?_) | (with_reducible refine Kp.drewN ?_ _) | (with_reducible refine Kp.setCell ?_ _ ?_))) <;> (first | omega | (simp; done) | (simp; omega))), ?_, ?_, (by (repeat (first | with_reducible exact Below.refl _ _ | (with_reducible refine bel_next ?_ ?_ (by assumption)) | (with_reducible refine Below.alloc ?_ ?_ _) | (with_reducible refine Below.drew ?_) | (with_reducible refine below_drewN ?_ _) | (with_reducible refine Below.setCell ?_ ?_ _))) <;> (first | omega | (simp; done) | (simp; omega))), by first | omega | (simp [World.setCell]; omega)⟩ <;> (intro a h; obtain rfl : _ = a := Option.some.inj h; simp; omega))
    · have HK : Hid (D = os) := by
        show _ = _
        have := HF.out
        rw [List.take_of_length_le (by omega)] at this
        rw [HD2.out, ← this]
      go_wp2_with fail
      refine (sameInts_same D D.length os.length rfl (by rw [HK.out]) _ _ _ _ _ (by omega) (HO3.out.rd.below (by (repeat (first | with_reducible exact Below.refl _ _ | (with_reducible refine bel_next ?_ ?_ (by assumption)) | (with_reducible refine Below.alloc ?_ ?_ _) | (with_reducible refine Below.drew ?_) | (with_reducible refine below_drewN ?_ _) | (with_reducible refine Below.setCell ?_ ?_ _))) <;> (first | omega | (simp; done) | (simp; omega)))) (by rw [HK.out]; exact H2.out.rd)).mono ?_
      rintro e _ ⟨rfl, m5, rfl⟩
      go_wp2_with fail
      refine (iOutputCount_any l U _ HU.out _ _ _ hlM hncp hcm (HL.out.below (by (repeat (first | with_reducible exact Below.refl _ _ | (with_reducible refine bel_next ?_ ?_ (by assumption)) | (with_reducible refine Below.alloc ?_ ?_ _) | (with_reducible refine Below.drew ?_) | (with_reducible refine below_drewN ?_ _) | (with_reducible refine Below.setCell ?_ ?_ _))) <;> (first | omega | (simp; done) | (simp; omega))))).mono ?_
      rw [← HQ.out]
      rintro e w6 ⟨rfl, hb6⟩
      have z6 := hb6.size
      go_wp2_with fail
      go_ret
      exact ⟨rfl, (by (repeat (first | with_reducible exact Below.refl _ _ | (with_reducible refine bel_next ?_ ?_ (by assumption)) | (with_reducible refine Below.alloc ?_ ?_ _) | (with_reducible refine Below.drew ?_) | (with_reducible refine below_drewN ?_ _) | (with_reducible refine Below.setCell ?_ ?_ _))) <;> (first | omega | (simp; done) | (simp; omega)))⟩
end Go.Proofs.Ytfeffofoofmgcaa

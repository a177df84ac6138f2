/- The walk of the law FnCompiled. -/
import Derived.Test.YtfcijloiebnloaaCmpAllD
import Derived.Test.YtfcijloiebnloaaCmpAllG
import Derived.Test.YtfcijloiebnloaaCmpAllE
namespace Go.Proofs.Ytfcijloiebnloaa
open Go.RowKit
set_option linter.unusedVariables false
set_option linter.unusedSimpArgs false
set_option maxRecDepth 20000 in
set_option maxHeartbeats 8000000 in
theorem walk_FnCompiled (w : World) (xs : List Int) (ad : Option Addr) (c : Nat) (hm : xs.length ≤ maxLen) (hr : RdC w ad (xs.map (Value.int .u8))) (hb : ∀ x ∈ xs, 0 ≤ x ∧ x ≤ 255) :
    Calls Try.prog 11 #[.slice ad xs.length c] w fun e w' => e = .returned (.bool true) ∧ Below w.heap.size w w' := by
  unfold maxLen at hm
  by_cases hsz : xs.length ≤ 1048576
  case neg =>
    go_enter Try.func11, Try.ntmps11
    go_wp2_with (first | (go_at_call 41; go_in) | fail)
    go_ret
    exact ⟨rfl, Below.refl _ _⟩
  go_enter Try.func11, Try.ntmps11
  go_wp2_with (first | (go_at_call 41; go_in) | fail)
  refine (DrawRun_any xs ad c w hsz hr hb).mono ?_
  rintro e w1 ⟨gp, cp, ga, ca, l, rs, rfl, hp, hol, hrs5, hin, hrd, hb1⟩
  have hncp : l.length ≤ cp := hol.cap
  have hcm : cp ≤ maxLen := hol.capMax
  obtain ⟨us', hus'⟩ := hp.ur
  have hl40 := hp.len
  have hok : progOk l = true := ur_progOk (ur_mono hus' (by omega)) hl40
  obtain ⟨r2, hr2⟩ := hp.two
  have hl2 : 2 ≤ l.length := by rw [hr2]; simp
  have HOK := Lib.hid hok
  have HP := Lib.hid hp
  have HL := Lib.hid hol.rd
  have hlM : l.length ≤ maxLen := by unfold maxLen; omega
  have z1 := hb1.size
  have ge1 := hol.ge
  have H5 := Lib.hid hrs5
  have HIN := Lib.hid hin
  have HRI := Lib.hid hrd
  have hmlR : rowsLe rs := fun r hr' => by
    first | (have := (inputsOk_parts hin).2 r hr'; unfold maxLen; omega) | (obtain ⟨k, hk, rfl⟩ := List.getElem_of_mem hr'; have := (inputs_row hin hk).1; unfold maxLen; omega)
  have HML := Lib.hid hmlR
  obtain ⟨xss, hxss⟩ : ∃ x, x = rs.map Rw.xs := ⟨_, rfl⟩
  have HXS := Lib.hid hxss
  clear hp hol hok hr2 hus' hrs5 hin hrd hmlR hxss
  obtain ⟨U, hU, hsi, hy, hn⟩ := unr_one HOK.out
  have HSI := Lib.hid hsi
  clear hsi
  by_cases h120 : U.length ≤ 120
  case neg =>
    have hv := hn (by omega)
    clear hy hn
    have HV := Lib.hid hv
    clear hv
    have h120' : (120 : Int) < (U.length : Int) := by omega
    go_wp2_with fail
    refine (iCompile_any l [] false HV.out (fun h => by cases h) (some ⟨gp, 0, none⟩) cp w1 hlM hncp hcm HL.out).mono ?_
    rintro e w2 ⟨b1, d1, b2, d2, rfl, q1, q2, q3, hb2⟩
    have z2 := hb2.size
    clear q1 q2 q3
    obtain ⟨W3, hW3⟩ : ∃ X, X = w2.alloc (.cells #[.slice b1 (cmpG [] false).length d1, .slice b2 (cmpO [] false).length d2] 29) := ⟨_, rfl⟩
    have hb3 : Below w2.heap.size w2 W3 := by rw [hW3]; exact (Below.refl _ _).alloc (Nat.le_refl _) _
    have z3 := hb3.size
    have HW3 := Lib.hid hW3
    clear hW3
    go_wp2_with fail
    have hcc := sRunProgram_any l [] false HV.out (some ⟨gp, 0, none⟩) cp W3 hlM hncp hcm (HL.out.below (by (repeat (first | with_reducible exact Below.refl _ _ | (with_reducible refine bel_next ?_ ?_ (by assumption)) | (with_reducible refine Below.alloc ?_ ?_ _) | (with_reducible refine Below.drew ?_) | (with_reducible refine below_drewN ?_ _) | (with_reducible refine Below.setCell ?_ ?_ _))) <;> (first | omega | (simp; done) | (simp; omega)))) rs (some ⟨ga, 0, none⟩) ca (by rw [H5.out]; omega) HML.out (HRI.out.below (by (repeat (first | with_reducible exact Below.refl _ _ | (with_reducible refine bel_next ?_ ?_ (by assumption)) | (with_reducible refine Below.alloc ?_ ?_ _) | (with_reducible refine Below.drew ?_) | (with_reducible refine below_drewN ?_ _) | (with_reducible refine Below.setCell ?_ ?_ _))) <;> (first | omega | (simp; done) | (simp; omega))))
    rw [H5.out, show runOk false (rs.map Rw.xs) = false from rfl] at hcc
    first | rw [← HW3.out] | skip
    refine hcc.mono ?_
    clear hcc
    rintro e w4 ⟨a4, c4, rfl, h4, hb4⟩
    have z4 := hb4.size
    clear h4
    go_wp2_with fail
    refine (iUnrolledSize_any l (U.length : Int) HSI.out _ _ _ hlM hncp hcm (HL.out.below (by (repeat (first | with_reducible exact Below.refl _ _ | (with_reducible refine bel_next ?_ ?_ (by assumption)) | (with_reducible refine Below.alloc ?_ ?_ _) | (with_reducible refine Below.drew ?_) | (with_reducible refine below_drewN ?_ _) | (with_reducible refine Below.setCell ?_ ?_ _))) <;> (first | omega | (simp; done) | (simp; omega))))).mono ?_
    rintro e w5 ⟨rfl, hb5⟩
    have z5 := hb5.size
    go_wp2_with fail
    go_ret
    exact ⟨rfl, (by (repeat (first | with_reducible exact Below.refl _ _ | (with_reducible refine bel_next ?_ ?_ (by assumption)) | (with_reducible refine Below.alloc ?_ ?_ _) | (with_reducible refine Below.drew ?_) | (with_reducible refine below_drewN ?_ _) | (with_reducible refine Below.setCell ?_ ?_ _))) <;> (first | omega | (simp; done) | (simp; omega)))⟩
  case pos =>
    have hv := hy h120
    clear hy hn
    have hpl := ur_plains hU
    have hsu : ∀ s ∈ U, StU s := fun s hs => stU_of (hpl s hs).1 (hpl s hs).2.1 (hpl s hs).2.2
    have hpb : ∀ s ∈ U, plainB s = true := fun s hs => by
      have h := hpl s hs
      have r := stok_regs h.1
      simp only [plainB, h.1, Bool.true_and, decide_eq_true_eq]
      omega
    have hxx : ∀ a n : Nat, a < 5 → n < 4 → 0 ≤ (xss.getD a []).getD n 0 ∧ (xss.getD a []).getD n 0 ≤ 15 := fun a n ha hn => by
      have hq := inputsOk_parts HIN.out
      have hlt : a < rs.length := by rw [hq.1]; exact ha
      have hr := hq.2 rs[a] (List.getElem_mem hlt)
      rw [HXS.out]
      have e : (rs.map Rw.xs).getD a [] = rs[a].xs := by simp [List.getD, hlt]
      rw [e]
      have hn' : n < rs[a].xs.length := by rw [hr.1]; exact hn
      have e2 : rs[a].xs.getD n 0 = rs[a].xs[n] := by simp [List.getD, hn']
      rw [e2]; exact hr.2 _ (List.getElem_mem hn')
    have hin' : inputsOk xss = true := by rw [HXS.out]; exact HIN.out
    have R := cmp_runs hsu hpb h120 hin' hxx
    have OL := cmp_olen hsu U.length (Nat.le_refl _)
    have hC := cmpL_ok hsu U.length (Nat.le_refl _)
    rw [List.take_length] at OL hC
    have hgl := hC.len
    have hol := hC.ol
    obtain ⟨G, hG⟩ : ∃ x, x = (cmpL zero0 U cmp0).1 := ⟨_, rfl⟩
    obtain ⟨O, hO⟩ : ∃ x, x = (cmpL zero0 U cmp0).2.1 := ⟨_, rfl⟩
    obtain ⟨RO, hRO⟩ : ∃ x, x = (runF U xss).2 := ⟨_, rfl⟩
    have hrl := (runF_len U xss U.length).2
    rw [List.take_length, ← hRO] at hrl
    rw [← hG, ← hO, ← hRO] at R
    rw [← hO] at OL hol
    rw [← hG] at hgl
    have HG : Hid (cmpG U true = G) := by show _ = _; rw [hG]; rfl
    have HO : Hid (cmpO U true = O) := by show _ = _; rw [hO]; rfl
    have HRB : Hid (rcB G O xss = true) := by show _ = _; simp [rcB, R.1, R.2.1, hin']
    have HRC : Hid (rcOuts G O xss = RO) := by show _ = _; unfold rcOuts; rw [if_pos HRB.out]; exact R.2.2
    have HOK2 : Hid (circOk G O = true) := R.1
    have HRO : Hid (runOuts U (rs.map Rw.xs) true = RO) := by show _ = _; rw [← HXS.out]; unfold runOuts runOk; rw [hin']; exact hRO.symm
    have HRK : Hid (runOk true (rs.map Rw.xs) = true) := by show _ = _; rw [← HXS.out]; unfold runOk; rw [hin']; rfl
    obtain ⟨m, hm4⟩ : ∃ m, m = cntOut U := ⟨_, rfl⟩
    have hOm : O.length = 4 * m := by rw [hm4]; exact OL
    have HOC : Hid (outCount U true = (m : Int)) := by show _ = _; rw [hm4]; rfl
    have hOz : (O.length : Int) = 4 * (m : Int) := by omega
    have hwm : IntKind.i64.wrap (4 * (m : Int)) = 4 * (m : Int) := wrap_i64_id (by omega) (by omega)
    have HOZ := Lib.hid hOz
    have HV := Lib.hid hv
    have HSU := Lib.hid hsu
    clear hv hpl hsu hpb hxx hin' R OL hC hG hO hRO hm4 hOm hOz
    go_wp2_with fail
    have hcc := iCompile_any l U true HV.out (fun _ => HSU.out) (some ⟨gp, 0, none⟩) cp w1 hlM hncp hcm HL.out
    rw [HG.out, HO.out] at hcc
    refine hcc.mono ?_
    clear hcc
    rintro e w2 ⟨b1, d1, b2, d2, rfl, h1, h2, hne, hb2⟩
    have z2 := hb2.size
    have H1 := Lib.hid h1.rd
    have H2 := Lib.hid h2.rd
    clear h1 h2 hne
    obtain ⟨W3, hW3⟩ : ∃ X, X = w2.alloc (.cells #[.slice b1 G.length d1, .slice b2 O.length d2] 29) := ⟨_, rfl⟩
    have hb3 : Below w2.heap.size w2 W3 := by rw [hW3]; exact (Below.refl _ _).alloc (Nat.le_refl _) _
    have x3 : w2.heap.size < W3.heap.size := by rw [hW3]; simp
    have k0 : W3.cell? ⟨w2.heap.size, 0, none⟩ = some (.slice b1 G.length d1) := by rw [hW3]; go_simp
    have k1 : W3.cell? ⟨w2.heap.size, 1, none⟩ = some (.slice b2 O.length d2) := by rw [hW3]; go_simp
    have z3 := hb3.size
    have HW3 := Lib.hid hW3
    clear hW3
    go_wp2_with fail
    rw [← HW3.out]
    have hcc := sRunProgram_any l U true HV.out (some ⟨gp, 0, none⟩) cp W3 hlM hncp hcm (HL.out.below (by (repeat (first | with_reducible exact Below.refl _ _ | (with_reducible refine bel_next ?_ ?_ (by assumption)) | (with_reducible refine Below.alloc ?_ ?_ _) | (with_reducible refine Below.drew ?_) | (with_reducible refine below_drewN ?_ _) | (with_reducible refine Below.setCell ?_ ?_ _))) <;> (first | omega | (simp; done) | (simp; omega)))) rs (some ⟨ga, 0, none⟩) ca (by rw [H5.out]; omega) HML.out (HRI.out.below (by (repeat (first | with_reducible exact Below.refl _ _ | (with_reducible refine bel_next ?_ ?_ (by assumption)) | (with_reducible refine Below.alloc ?_ ?_ _) | (with_reducible refine Below.drew ?_) | (with_reducible refine below_drewN ?_ _) | (with_reducible refine Below.setCell ?_ ?_ _))) <;> (first | omega | (simp; done) | (simp; omega))))
    rw [H5.out, HRO.out, HRK.out] at hcc
    refine hcc.mono ?_
    clear hcc
    rintro e w4 ⟨a4, c4, rfl, h4, hb4⟩
    have z4 := hb4.size
    have H4 := Lib.hid h4.rd
    have m0 := bel_keeps hb4 k0
    have m1 := bel_keeps hb4 k1
    clear h4 k0 k1
    go_wp2_with fail
    have hcc := iRunCircuit_any G O rs 5 H5.out xss HXS.out.symm b1 b2 (some ⟨ga, 0, none⟩) d1 d2 ca w4 (by omega) (by omega) (by omega) HML.out (H1.out.below (by (repeat (first | with_reducible exact Below.refl _ _ | (with_reducible refine bel_next ?_ ?_ (by assumption)) | (with_reducible refine Below.alloc ?_ ?_ _) | (with_reducible refine Below.drew ?_) | (with_reducible refine below_drewN ?_ _) | (with_reducible refine Below.setCell ?_ ?_ _))) <;> (first | omega | (simp; done) | (simp; omega)))) (H2.out.below (by (repeat (first | with_reducible exact Below.refl _ _ | (with_reducible refine bel_next ?_ ?_ (by assumption)) | (with_reducible refine Below.alloc ?_ ?_ _) | (with_reducible refine Below.drew ?_) | (with_reducible refine below_drewN ?_ _) | (with_reducible refine Below.setCell ?_ ?_ _))) <;> (first | omega | (simp; done) | (simp; omega)))) (HRI.out.below (by (repeat (first | with_reducible exact Below.refl _ _ | (with_reducible refine bel_next ?_ ?_ (by assumption)) | (with_reducible refine Below.alloc ?_ ?_ _) | (with_reducible refine Below.drew ?_) | (with_reducible refine below_drewN ?_ _) | (with_reducible refine Below.setCell ?_ ?_ _))) <;> (first | omega | (simp; done) | (simp; omega))))
    rw [HRC.out, HRB.out] at hcc
    refine hcc.mono ?_
    clear hcc
    rintro e w5 ⟨a5, c5, rfl, h5, hb5⟩
    have z5 := hb5.size
    have H5r := Lib.hid h5.rd
    have n0 := bel_keeps hb5 m0
    have n1 := bel_keeps hb5 m1
    clear h5 m0 m1
    have hoz := HOZ.out
    go_wp2_with fail
    go_region_held3 (fun w' => w'.cell? ⟨w2.heap.size, 0, none⟩ = some (.slice b1 G.length d1) ∧ w'.cell? ⟨w2.heap.size, 1, none⟩ = some (.slice b2 O.length d2))
      (first | go_keep)
      (first | (go_at_call 46; refine (sameInts_bel RO _ _ rfl rfl a4 a5 _ _ _ (by omega) (H4.out.below (by (repeat (first | with_reducible exact Below.refl _ _ | (with_reducible refine bel_next ?_ ?_ (by assumption)) | (with_reducible refine Below.alloc ?_ ?_ _) | (with_reducible refine Below.drew ?_) | (with_reducible refine below_drewN ?_ _) | (with_reducible refine Below.setCell ?_ ?_ _))) <;> (first | omega | (simp; done) | (simp; omega)))) (H5r.out.below (by (repeat (first | with_reducible exact Below.refl _ _ | (with_reducible refine bel_next ?_ ?_ (by assumption)) | (with_reducible refine Below.alloc ?_ ?_ _) | (with_reducible refine Below.drew ?_) | (with_reducible refine below_drewN ?_ _) | (with_reducible refine Below.setCell ?_ ?_ _))) <;> (first | omega | (simp; done) | (simp; omega))))).mono ?_; rintro e v1 ⟨rfl, hv1⟩; have p0 := bel_keeps hv1 (b := w2.heap.size) (o := 0) (v := .slice b1 G.length d1) (by first | (go_simp; done) | assumption); have p1 := bel_keeps hv1 (b := w2.heap.size) (o := 1) (v := .slice b2 O.length d2) (by first | (go_simp; done) | assumption); have zv1 := hv1.size; (try simp at zv1)) | (go_at_call 47; refine (iCircuitOk_any G O _ _ _ _ _ (by omega) (by omega) (H1.out.below (by (repeat (first | with_reducible exact Below.refl _ _ | (with_reducible refine bel_next ?_ ?_ (by assumption)) | (with_reducible refine Below.alloc ?_ ?_ _) | (with_reducible refine Below.drew ?_) | (with_reducible refine below_drewN ?_ _) | (with_reducible refine Below.setCell ?_ ?_ _))) <;> (first | omega | (simp; done) | (simp; omega)))) (H2.out.below (by (repeat (first | with_reducible exact Below.refl _ _ | (with_reducible refine bel_next ?_ ?_ (by assumption)) | (with_reducible refine Below.alloc ?_ ?_ _) | (with_reducible refine Below.drew ?_) | (with_reducible refine below_drewN ?_ _) | (with_reducible refine Below.setCell ?_ ?_ _))) <;> (first | omega | (simp; done) | (simp; omega))))).mono ?_; rintro e v2 ⟨rfl, hv2⟩; rw [HOK2.out]; have p0 := bel_keeps hv2 (b := w2.heap.size) (o := 0) (v := .slice b1 G.length d1) (by first | (go_simp; done) | assumption); have p1 := bel_keeps hv2 (b := w2.heap.size) (o := 1) (v := .slice b2 O.length d2) (by first | (go_simp; done) | assumption); have zv2 := hv2.size; (try simp at zv2)) | (go_at_call 48; refine (iOutputCount_any l U true HV.out _ _ _ hlM hncp hcm (HL.out.below (by (repeat (first | with_reducible exact Below.refl _ _ | (with_reducible refine bel_next ?_ ?_ (by assumption)) | (with_reducible refine Below.alloc ?_ ?_ _) | (with_reducible refine Below.drew ?_) | (with_reducible refine below_drewN ?_ _) | (with_reducible refine Below.setCell ?_ ?_ _))) <;> (first | omega | (simp; done) | (simp; omega))))).mono ?_; rintro e v3 ⟨rfl, hv3⟩; rw [HOC.out]; have p0 := bel_keeps hv3 (b := w2.heap.size) (o := 0) (v := .slice b1 G.length d1) (by first | (go_simp; done) | assumption); have p1 := bel_keeps hv3 (b := w2.heap.size) (o := 1) (v := .slice b2 O.length d2) (by first | (go_simp; done) | assumption); have zv3 := hv3.size; (try simp at zv3)))
    all_goals go_wp2_with fail
    all_goals go_ret
    all_goals exact ⟨rfl, (by (repeat (first | with_reducible exact Below.refl _ _ | (with_reducible refine bel_next ?_ ?_ (by assumption)) | (with_reducible refine Below.alloc ?_ ?_ _) | (with_reducible refine Below.drew ?_) | (with_reducible refine below_drewN ?_ _) | (with_reducible refine Below.setCell ?_ ?_ _))) <;> (first | omega | (simp; done) | (simp; omega)))⟩

end Go.Proofs.Ytfcijloiebnloaa

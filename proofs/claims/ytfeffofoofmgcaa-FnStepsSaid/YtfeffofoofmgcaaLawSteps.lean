/- The walk of the law FnSteps. -/
import Derived.Test.YtfeffofoofmgcaaStepFacts
import Derived.Test.YtfeffofoofmgcaaLawLoopRuns
namespace Go.Proofs.Ytfeffofoofmgcaa
open Go.RowKit
set_option linter.unusedVariables false
set_option linter.unusedSimpArgs false

set_option maxRecDepth 20000 in
set_option maxHeartbeats 8000000 in
theorem walk_FnSteps (w : World) (xs : List Int) (ad : Option Addr) (c : Nat) (hm : xs.length ≤ maxLen) (hr : RdC w ad (xs.map (Value.int .u8))) (hb : ∀ x ∈ xs, 0 ≤ x ∧ x ≤ 255) :
    Calls Try.prog 16 #[.slice ad xs.length c] w fun e w' => e = .returned (.bool true) ∧ Below w.heap.size w w' := by
  unfold maxLen at hm
  by_cases hsz : xs.length ≤ 1048576
  case neg =>
    go_enter Try.func16, Try.ntmps16
    go_wp2_with (first | (go_at_call 65; go_in) | fail)
    go_ret
    exact ⟨rfl, Below.refl _ _⟩
  go_enter Try.func16, Try.ntmps16
  go_wp2_with (first | (go_at_call 65; go_in) | fail)
  refine (DrawRun_any xs ad c w hsz hr hb).mono ?_
  rintro e w1 ⟨gp, cp, ga, ca, l, rs, rfl, hp, hol, hrs5, hin, hrd, hb1⟩
  have hncp : l.length ≤ cp := hol.cap
  have hcm : cp ≤ maxLen := hol.capMax
  obtain ⟨us', hus'⟩ := hp.ur
  have hl40 := hp.len
  have hok : progOk l = true := ur_progOk (ur_mono hus' (by omega)) hl40
  obtain ⟨r2, hr2⟩ := hp.two
  have hl2 : 2 ≤ l.length := by rw [hr2]; simp
  have HOK := Lib.hid hok
  have HP := Lib.hid hp
  have HL := Lib.hid hol.rd
  have hlM : l.length ≤ maxLen := by unfold maxLen; omega
  have z1 := hb1.size
  have ge1 := hol.ge
  have H5 := Lib.hid hrs5
  have HIN := Lib.hid hin
  have HRI := Lib.hid hrd
  have hmlR : rowsLe rs := fun r hr' => by
    first | (have := (inputsOk_parts hin).2 r hr'; unfold maxLen; omega) | (obtain ⟨k, hk, rfl⟩ := List.getElem_of_mem hr'; have := (inputs_row hin hk).1; unfold maxLen; omega)
  have HML := Lib.hid hmlR
  obtain ⟨xss, hxss⟩ : ∃ x, x = rs.map Rw.xs := ⟨_, rfl⟩
  have HXS := Lib.hid hxss
  clear hp hol hok hr2 hus' hrs5 hin hrd hmlR hxss
  go_wp2_with fail
  refine (DrawPlaces_any xs ad c _ hsz (hr.below (by (repeat (first | with_reducible exact Below.refl _ _ | (with_reducible refine bel_next ?_ ?_ (by assumption)) | (with_reducible refine Below.alloc ?_ ?_ _) | (with_reducible refine Below.drew ?_) | (with_reducible refine below_drewN ?_ _) | (with_reducible refine Below.setCell ?_ ?_ _))) <;> (first | omega | (simp; done) | (simp; omega)))) hb).mono ?_
  rintro e w2 ⟨a', c', rfl, ⟨vs, hl, hv, hown⟩, hb2⟩
  obtain ⟨b, rfl, hcell⟩ := hown.at2 (by omega)
  have p0 := hcell 0 (by omega)
  obtain ⟨x00, x01⟩ := hv vs[0] (List.getElem_mem _)
  generalize vs[0] = x0 at *
  have z2 := hb2.size
  have hlb := lt_of_cell p0
  simp only at hlb
  clear hl hv hcell hown
  have hx12 : 0 ≤ x0 % 12 ∧ x0 % 12 < 12 := ⟨Int.emod_nonneg _ (by omega), Int.emod_lt_of_pos _ (by omega)⟩
  go_wp2_with fail
  refine (iStateNew_any _).mono ?_
  rintro e w3 ⟨g, rfl, hog, hb3⟩
  have z3 := hb3.size
  have qg := hog.ge
  have p03 := bel_keeps hb3 p0
  have HOG := Lib.hid hog
  clear hog
  go_wp2_with fail
  go_loopw [7] (fun i wr => ∃ (k : Nat) (rs' os : List Int) (a1 a2' : Option Addr) (e1 e2' : Nat), k ≤ l.length ∧ i = .int .i64 k ∧ stateOk rs' os = true ∧ os.length ≤ k ∧ wr.cell? ⟨w3.heap.size, 0, none⟩ = some (.slice a1 rs'.length e1) ∧ wr.cell? ⟨w3.heap.size, 1, none⟩ = some (.slice a2' os.length e2') ∧ wr.frozen? ⟨w3.heap.size, 0, none⟩ = false ∧ wr.frozen? ⟨w3.heap.size, 1, none⟩ = false ∧
        RdC wr a1 (I64 rs') ∧ RdC wr a2' (I64 os) ∧ Below w3.heap.size w3 wr ∧ w3.heap.size < wr.heap.size) (fun i _ => l.length - (intOf i).toNat)
  case atStart =>
    exact ⟨0, List.replicate 8 0, [], some ⟨g, 0, none⟩, none, 8, 0, Nat.zero_le _, rfl, by decide, by simp, by go_simp, by go_simp, by go_simp, by go_simp, (HOG.out.later (by (repeat (first | with_reducible exact Kp.refl _ _ | (with_reducible refine Kp.rng ?_ (by assumption) ?_) | (with_reducible refine Kp.below ?_ (by assumption)) | (with_reducible refine Kp.grown ?_ (by assumption) ?_) | (with_reducible refine Kp.alloc ?_ _) | (with_reducible refine Kp.drew ?_) | (with_reducible refine Kp.drewN ?_ _) | (with_reducible refine Kp.setCell ?_ _ ?_))) <;> (first | omega | (simp; done) | (simp; omega)))).rd, RdC.nil _ _, (by (repeat (first | with_reducible exact Below.refl _ _ | (with_reducible refine bel_next ?_ ?_ (by assumption)) | (with_reducible refine Below.alloc ?_ ?_ _) | (with_reducible refine Below.drew ?_) | (with_reducible refine below_drewN ?_ _) | (with_reducible refine Below.setCell ?_ ?_ _))) <;> (first | omega | (simp; done) | (simp; omega))), by simp⟩
  case round =>
    obtain ⟨k, rs', os, a1, a2', e1, e2', hk, rfl, hso, hol, q0, q1, f0, f1, hr1, hr2, hbw, hB⟩ := hrel
    have zw := hbw.size
    have hl8 := stateOk_len hso
    have hm1 : rs'.length ≤ 1048576 := by omega
    have hm2 : os.length ≤ 1048576 := by omega
    have H8 := Lib.hid hl8
    have HSO := Lib.hid hso
    have H1 := Lib.hid hr1
    have H2 := Lib.hid hr2
    have pw := bel_keeps hbw p03
    have hM1 : rs'.length ≤ maxLen := by unfold maxLen; omega
    have hM2 : os.length ≤ maxLen := by unfold maxLen; omega
    clear hl8 hso hr1 hr2
    by_cases hlt : k < l.length ∧ (k : Int) < 1 + x0 % 12
    case neg =>
      have tt : k < l.length → decide ((k : Int) < 1 + x0 % 12) = false := fun h => decide_eq_false (by omega)
      by_cases hlt1 : k < l.length
      all_goals
        have tt' := tt
        try (have tt2 := tt hlt1)
        clear tt tt'
        go_wp2_with fail
        refine (iStateOk_any rs' os _ _ _ _ _ hM1 hM2 H1.out H2.out).mono ?_
        rw [HSO.out]
        rintro e w9 ⟨rfl, hb9⟩
        have z9 := hb9.size
        go_wp2_with fail
        have hcc := iInputsOk_any rs (some ⟨ga, 0, none⟩) ca w9 (by have := H5.out; unfold maxLen; omega) HML.out (HRI.out.below (by (repeat (first | with_reducible exact Below.refl _ _ | (with_reducible refine bel_next ?_ ?_ (by assumption)) | (with_reducible refine Below.alloc ?_ ?_ _) | (with_reducible refine Below.drew ?_) | (with_reducible refine below_drewN ?_ _) | (with_reducible refine Below.setCell ?_ ?_ _))) <;> (first | omega | (simp; done) | (simp; omega))))
        rw [H5.out, HIN.out] at hcc
        refine hcc.mono ?_
        rintro e _ ⟨rfl, rfl⟩
        go_wp2_with fail
        go_ret
        exact ⟨rfl, (by (repeat (first | with_reducible exact Below.refl _ _ | (with_reducible refine bel_next ?_ ?_ (by assumption)) | (with_reducible refine Below.alloc ?_ ?_ _) | (with_reducible refine Below.drew ?_) | (with_reducible refine below_drewN ?_ _) | (with_reducible refine Below.setCell ?_ ?_ _))) <;> (first | omega | (simp; done) | (simp; omega)))⟩
    obtain ⟨b0, off0, op, dst, sa, sb, sc, sn, hadr, hbl0, hx, c0, c1, c2, c3, c4, c5⟩ := (show RdC wr (some ⟨gp, 0, none⟩) (stCells l) from HL.out.below (by (repeat (first | with_reducible exact Below.refl _ _ | (with_reducible refine bel_next ?_ ?_ (by assumption)) | (with_reducible refine Below.alloc ?_ ?_ _) | (with_reducible refine Below.drew ?_) | (with_reducible refine below_drewN ?_ _) | (with_reducible refine Below.setCell ?_ ?_ _))) <;> (first | omega | (simp; done) | (simp; omega)))).st k hlt.1
    simp only [Option.some.injEq, Addr.mk.injEq, and_true] at hadr
    obtain ⟨rfl, rfl⟩ := hadr
    simp only [Nat.zero_add] at c0 c1 c2 c3 c4 c5
    have hgp : gp < w1.heap.size := by omega
    have tl : (k : Int) < (l.length : Int) := by omega
    have td : decide ((k : Int) < 1 + x0 % 12) = true := decide_eq_true hlt.2
    obtain ⟨R, hR⟩ : ∃ R, R = stepRegs rs' os ⟨op, dst, sa, sb, sc, sn⟩ xss := ⟨_, rfl⟩
    obtain ⟨O, hO⟩ : ∃ R, R = stepOuts rs' os ⟨op, dst, sa, sb, sc, sn⟩ xss := ⟨_, rfl⟩
    have hso2 : stateOk R O = true := by rw [hR, hO, HXS.out]; exact step_state HSO.out HIN.out
    have hR8 := stateOk_len hso2
    have hOl : O.length ≤ k + 1 := by rw [hO]; have := stepOuts_len rs' os ⟨op, dst, sa, sb, sc, sn⟩ xss; omega
    have HKP : Hid (∀ q : Nat, (q : Int) ≠ writesOf ⟨op, dst, sa, sb, sc, sn⟩ → R.getD q 0 = rs'.getD q 0) := fun q hq => by rw [hR]; exact step_keeps hq
    have HR := Lib.hid hR
    have HO := Lib.hid hO
    have HSO2 := Lib.hid hso2
    have HR8 := Lib.hid hR8
    have tr8 : ((R.length : Int) != 8) = false := by simp; omega
    have ts8 : ((rs'.length : Int) != 8) = false := by have := H8.out; simp; omega
    have hRM : R.length ≤ maxLen := by unfold maxLen; omega
    have hOM : O.length ≤ maxLen := by unfold maxLen; omega
    have hgb : gp ≠ w3.heap.size := by omega
    have hbb : b ≠ w3.heap.size := by omega
    clear hR hO hso2 hR8 hlt hx
    go_wp2_with fail
    apply wp_share5 (F := fun W bx21 g121 d121 g221 d221 => Below wr.heap.size wr W ∧ W.cell? ⟨bx21, 0, none⟩ = some (.slice (some ⟨g121, 0, none⟩) R.length d121) ∧ W.cell? ⟨bx21, 1, none⟩ = some (.slice (some ⟨g221, 0, none⟩) O.length d221) ∧ wr.heap.size ≤ bx21 ∧ bx21 < W.heap.size ∧ Own W wr.heap.size 3 1 (some ⟨g121, 0, none⟩) R.length d121 (I64 R) ∧ Own W wr.heap.size 3 1 (some ⟨g221, 0, none⟩) O.length d221 (I64 O) ∧ True)
    case h1 =>
      have a0_21 : wr.heap.size ≠ 0 ∨ True := .inr trivial
      have n21_88 : w3.heap.size ≠ wr.heap.size := (by omega)
      have n21_88a : wr.heap.size ≠ w3.heap.size := (by omega)
      have n21_90 : gp ≠ wr.heap.size := (by omega)
      have n21_90a : wr.heap.size ≠ gp := (by omega)
      have n21_92 : b ≠ wr.heap.size := (by omega)
      have n21_92a : wr.heap.size ≠ b := (by omega)
      go_region_held3 (fun w' => w'.cell? ⟨w3.heap.size, 0, none⟩ = some (.slice a1 rs'.length e1) ∧ w'.cell? ⟨w3.heap.size, 1, none⟩ = some (.slice a2' os.length e2') ∧ w'.cell? ⟨gp, k * 6, none⟩ = some (.int .i64 op) ∧ w'.cell? ⟨gp, k * 6 + 1, none⟩ = some (.int .i64 dst) ∧ w'.cell? ⟨gp, k * 6 + 2, none⟩ = some (.int .i64 sa) ∧ w'.cell? ⟨gp, k * 6 + 3, none⟩ = some (.int .i64 sb) ∧ w'.cell? ⟨gp, k * 6 + 4, none⟩ = some (.int .i64 sc) ∧ w'.cell? ⟨gp, k * 6 + 5, none⟩ = some (.int .i64 sn))
        (first | go_keep)
        (first | (go_at_call 57; refine (iStepState_n rs' os a1 a2' e1 e2' ⟨op, dst, sa, sb, sc, sn⟩ rs 5 xss _ _ _ hm1 hm2 (H1.out.below (by (repeat (first | with_reducible exact Below.refl _ _ | (with_reducible refine bel_next ?_ ?_ (by assumption)) | (with_reducible refine Below.alloc ?_ ?_ _) | (with_reducible refine Below.drew ?_) | (with_reducible refine below_drewN ?_ _) | (with_reducible refine Below.setCell ?_ ?_ _))) <;> (first | omega | (simp; done) | (simp; omega)))) (H2.out.below (by (repeat (first | with_reducible exact Below.refl _ _ | (with_reducible refine bel_next ?_ ?_ (by assumption)) | (with_reducible refine Below.alloc ?_ ?_ _) | (with_reducible refine Below.drew ?_) | (with_reducible refine below_drewN ?_ _) | (with_reducible refine Below.setCell ?_ ?_ _))) <;> (first | omega | (simp; done) | (simp; omega)))) H5.out HXS.out.symm (by omega) HML.out (HRI.out.below (by (repeat (first | with_reducible exact Below.refl _ _ | (with_reducible refine bel_next ?_ ?_ (by assumption)) | (with_reducible refine Below.alloc ?_ ?_ _) | (with_reducible refine Below.drew ?_) | (with_reducible refine below_drewN ?_ _) | (with_reducible refine Below.setCell ?_ ?_ _))) <;> (first | omega | (simp; done) | (simp; omega))))).mono ?_; rintro e v1 ⟨g121, d121, g221, d221, rfl, ho1, ho2, hlt, hv1⟩; have zv1 := hv1.size; (try simp at zv1); rw [← HR.out] at ho1; rw [← HO.out] at ho2; rw [← HR.out, ← HO.out]; have ge1 := ho1.ge; have ge2 := ho2.ge; (try simp at ge1); (try simp at ge2); have yv1_0 : w3.heap.size < v1.heap.size := (by omega); have nv1_0 : w3.heap.size ≠ v1.heap.size := (by omega); have mv1_0 : v1.heap.size ≠ w3.heap.size := (by omega); have yv1_1 : gp < v1.heap.size := (by omega); have nv1_1 : gp ≠ v1.heap.size := (by omega); have mv1_1 : v1.heap.size ≠ gp := (by omega); have kv1_0 := bel_keeps hv1 (b := w3.heap.size) (o := 0) (v := .slice a1 rs'.length e1) (by first | (go_simp; done) | assumption); have kv1_1 := bel_keeps hv1 (b := w3.heap.size) (o := 1) (v := .slice a2' os.length e2') (by first | (go_simp; done) | assumption); have kv1_2 := bel_keeps hv1 (b := gp) (o := k * 6) (v := .int .i64 op) (by first | (go_simp; done) | assumption); have kv1_3 := bel_keeps hv1 (b := gp) (o := k * 6 + 1) (v := .int .i64 dst) (by first | (go_simp; done) | assumption); have kv1_4 := bel_keeps hv1 (b := gp) (o := k * 6 + 2) (v := .int .i64 sa) (by first | (go_simp; done) | assumption); have kv1_5 := bel_keeps hv1 (b := gp) (o := k * 6 + 3) (v := .int .i64 sb) (by first | (go_simp; done) | assumption); have kv1_6 := bel_keeps hv1 (b := gp) (o := k * 6 + 4) (v := .int .i64 sc) (by first | (go_simp; done) | assumption); have kv1_7 := bel_keeps hv1 (b := gp) (o := k * 6 + 5) (v := .int .i64 sn) (by first | (go_simp; done) | assumption); (try have yc1_0 : wr.heap.size < v1.heap.size := (by omega)); (try have bc1_00 := bel_keeps hv1 (b := wr.heap.size) (o := 0) (v := .slice none 0 0) (by first | (go_simp; done) | assumption)); (try have qc1_00 := bel_free hv1 (b := wr.heap.size) (o := 0) (by first | omega | (simp; done) | (simp; omega)) (by first | (go_simp; done) | assumption)); (try have bc1_01 := bel_keeps hv1 (b := wr.heap.size) (o := 1) (v := .slice none 0 0) (by first | (go_simp; done) | assumption)); (try have qc1_01 := bel_free hv1 (b := wr.heap.size) (o := 1) (by first | omega | (simp; done) | (simp; omega)) (by first | (go_simp; done) | assumption))))
      ·
        refine ⟨rfl, v1.heap.size, g121, d121, g221, d221, ⟨(by (repeat (first | with_reducible exact Below.refl _ _ | (with_reducible refine bel_next ?_ ?_ (by assumption)) | (with_reducible refine Below.alloc ?_ ?_ _) | (with_reducible refine Below.drew ?_) | (with_reducible refine below_drewN ?_ _) | (with_reducible refine Below.setCell ?_ ?_ _))) <;> (first | omega | (simp; done) | (simp; omega))), (by first | (go_simp; done) | assumption), (by first | (go_simp; done) | assumption), (by first | omega | (simp; done) | (simp; omega)), (by first | omega | (simp [World.setCell]; done) | (simp [World.setCell]; omega)), (ho1.lo (by first | omega | (simp; done) | (simp; omega))).later (by (repeat (first | with_reducible exact Kp.refl _ _ | (with_reducible refine Kp.rng ?_ (by assumption) ?_) | (with_reducible refine Kp.below ?_ (by assumption)) | (with_reducible refine Kp.grown ?_ (by assumption) ?_) | (with_reducible refine Kp.alloc ?_ _) | (with_reducible refine Kp.drew ?_) | (with_reducible refine Kp.drewN ?_ _) | (with_reducible refine Kp.setCell ?_ _ ?_))) <;> (first | omega | (simp; done) | (simp; omega))), (ho2.lo (by first | omega | (simp; done) | (simp; omega))).later (by (repeat (first | with_reducible exact Kp.refl _ _ | (with_reducible refine Kp.rng ?_ (by assumption) ?_) | (with_reducible refine Kp.below ?_ (by assumption)) | (with_reducible refine Kp.grown ?_ (by assumption) ?_) | (with_reducible refine Kp.alloc ?_ _) | (with_reducible refine Kp.drew ?_) | (with_reducible refine Kp.drewN ?_ _) | (with_reducible refine Kp.setCell ?_ _ ?_))) <;> (first | omega | (simp; done) | (simp; omega))), trivial⟩, ?_⟩
        generalize (v1.alloc (.cells #[.slice (some ⟨g121, 0, none⟩) R.length d121, .slice (some ⟨g221, 0, none⟩) O.length d221] 57)) = W
        generalize v1.heap.size = bx
        rfl
      ·
        refine ⟨rfl, wr.heap.size, g121, d121, g221, d221, ⟨(by (repeat (first | with_reducible exact Below.refl _ _ | (with_reducible refine bel_next ?_ ?_ (by assumption)) | (with_reducible refine Below.alloc ?_ ?_ _) | (with_reducible refine Below.drew ?_) | (with_reducible refine below_drewN ?_ _) | (with_reducible refine Below.setCell ?_ ?_ _))) <;> (first | omega | (simp; done) | (simp; omega))), (by first | (go_simp; done) | assumption), (by first | (go_simp; done) | assumption), (by first | omega | (simp; done) | (simp; omega)), (by first | omega | (simp [World.setCell]; done) | (simp [World.setCell]; omega)), (ho1.lo (by first | omega | (simp; done) | (simp; omega))).later (by (repeat (first | with_reducible exact Kp.refl _ _ | (with_reducible refine Kp.rng ?_ (by assumption) ?_) | (with_reducible refine Kp.below ?_ (by assumption)) | (with_reducible refine Kp.grown ?_ (by assumption) ?_) | (with_reducible refine Kp.alloc ?_ _) | (with_reducible refine Kp.drew ?_) | (with_reducible refine Kp.drewN ?_ _) | (with_reducible refine Kp.setCell ?_ _ ?_))) <;> (first | omega | (simp; done) | (simp; omega))), (ho2.lo (by first | omega | (simp; done) | (simp; omega))).later (by (repeat (first | with_reducible exact Kp.refl _ _ | (with_reducible refine Kp.rng ?_ (by assumption) ?_) | (with_reducible refine Kp.below ?_ (by assumption)) | (with_reducible refine Kp.grown ?_ (by assumption) ?_) | (with_reducible refine Kp.alloc ?_ _) | (with_reducible refine Kp.drew ?_) | (with_reducible refine Kp.drewN ?_ _) | (with_reducible refine Kp.setCell ?_ _ ?_))) <;> (first | omega | (simp; done) | (simp; omega))), trivial⟩, ?_⟩
        generalize (World.setCell (World.setCell v1 ⟨wr.heap.size, 0, none⟩ (.slice (some ⟨g121, 0, none⟩) R.length d121)) ⟨wr.heap.size, 1, none⟩ (.slice (some ⟨g221, 0, none⟩) O.length d221)) = W
        generalize wr.heap.size = bx
        rfl
    rintro w21 bx21 g121 d121 g221 d221 ⟨hb21, r21_0, r21_1, r21_2, r21_3, r21_4, r21_5, r21_6⟩
    have z21 := hb21.size
    (try simp at z21)
    have y21_0 : w3.heap.size < w21.heap.size := (by omega)
    have y21_1 : gp < w21.heap.size := (by omega)
    have y21_2 : b < w21.heap.size := (by omega)
    have k21_0 := bel_keeps hb21 (b := w3.heap.size) (o := 0) (v := .slice a1 rs'.length e1) (by first | (go_simp; done) | assumption)
    have k21_1 := bel_keeps hb21 (b := w3.heap.size) (o := 1) (v := .slice a2' os.length e2') (by first | (go_simp; done) | assumption)
    have k21_2 := bel_keeps hb21 (b := gp) (o := k * 6) (v := .int .i64 op) (by first | (go_simp; done) | assumption)
    have k21_3 := bel_keeps hb21 (b := gp) (o := k * 6 + 1) (v := .int .i64 dst) (by first | (go_simp; done) | assumption)
    have k21_4 := bel_keeps hb21 (b := gp) (o := k * 6 + 2) (v := .int .i64 sa) (by first | (go_simp; done) | assumption)
    have k21_5 := bel_keeps hb21 (b := gp) (o := k * 6 + 3) (v := .int .i64 sb) (by first | (go_simp; done) | assumption)
    have k21_6 := bel_keeps hb21 (b := gp) (o := k * 6 + 4) (v := .int .i64 sc) (by first | (go_simp; done) | assumption)
    have k21_7 := bel_keeps hb21 (b := gp) (o := k * 6 + 5) (v := .int .i64 sn) (by first | (go_simp; done) | assumption)
    have k21_8 := bel_keeps hb21 (b := b) (o := 0) (v := .int .i64 x0) (by first | (go_simp; done) | assumption)
    have f21_0 := bel_free hb21 (b := w3.heap.size) (o := 0) (by first | omega | (simp; done) | (simp; omega)) (by first | (go_simp; done) | assumption)
    have f21_1 := bel_free hb21 (b := w3.heap.size) (o := 1) (by first | omega | (simp; done) | (simp; omega)) (by first | (go_simp; done) | assumption)
    have hO1 := Lib.hid r21_4
    have hO2 := Lib.hid r21_5
    have lg1 := r21_4.ge
    have lg2 := r21_5.ge
    clear r21_4 r21_5
    go_wp2_with fail
    refine (iStateOk_any R O _ _ _ _ _ hRM hOM (hO1.out.later (by (repeat (first | with_reducible exact Kp.refl _ _ | (with_reducible refine Kp.rng ?_ (by assumption) ?_) | (with_reducible refine Kp.below ?_ (by assumption)) | (with_reducible refine Kp.grown ?_ (by assumption) ?_) | (with_reducible refine Kp.alloc ?_ _) | (with_reducible refine Kp.drew ?_) | (with_reducible refine Kp.drewN ?_ _) | (with_reducible refine Kp.setCell ?_ _ ?_))) <;> (first | omega | (simp; done) | (simp; omega)))).rd (hO2.out.later (by (repeat (first | with_reducible exact Kp.refl _ _ | (with_reducible refine Kp.rng ?_ (by assumption) ?_) | (with_reducible refine Kp.below ?_ (by assumption)) | (with_reducible refine Kp.grown ?_ (by assumption) ?_) | (with_reducible refine Kp.alloc ?_ _) | (with_reducible refine Kp.drew ?_) | (with_reducible refine Kp.drewN ?_ _) | (with_reducible refine Kp.setCell ?_ _ ?_))) <;> (first | omega | (simp; done) | (simp; omega)))).rd).mono ?_
    rw [HSO2.out]
    rintro e w22 ⟨rfl, hb22⟩
    have z22 := hb22.size
    (try simp at z22)
    have y22_0 : w3.heap.size < w22.heap.size := (by omega)
    have y22_1 : gp < w22.heap.size := (by omega)
    have y22_2 : b < w22.heap.size := (by omega)
    have y22_3 : bx21 < w22.heap.size := (by omega)
    have k22_0 := bel_keeps hb22 (b := w3.heap.size) (o := 0) (v := .slice a1 rs'.length e1) (by first | (go_simp; done) | assumption)
    have k22_1 := bel_keeps hb22 (b := w3.heap.size) (o := 1) (v := .slice a2' os.length e2') (by first | (go_simp; done) | assumption)
    have k22_2 := bel_keeps hb22 (b := gp) (o := k * 6) (v := .int .i64 op) (by first | (go_simp; done) | assumption)
    have k22_3 := bel_keeps hb22 (b := gp) (o := k * 6 + 1) (v := .int .i64 dst) (by first | (go_simp; done) | assumption)
    have k22_4 := bel_keeps hb22 (b := gp) (o := k * 6 + 2) (v := .int .i64 sa) (by first | (go_simp; done) | assumption)
    have k22_5 := bel_keeps hb22 (b := gp) (o := k * 6 + 3) (v := .int .i64 sb) (by first | (go_simp; done) | assumption)
    have k22_6 := bel_keeps hb22 (b := gp) (o := k * 6 + 4) (v := .int .i64 sc) (by first | (go_simp; done) | assumption)
    have k22_7 := bel_keeps hb22 (b := gp) (o := k * 6 + 5) (v := .int .i64 sn) (by first | (go_simp; done) | assumption)
    have k22_8 := bel_keeps hb22 (b := b) (o := 0) (v := .int .i64 x0) (by first | (go_simp; done) | assumption)
    have k22_9 := bel_keeps hb22 (b := bx21) (o := 0) (v := .slice (some ⟨g121, 0, none⟩) R.length d121) (by first | (go_simp; done) | assumption)
    have k22_10 := bel_keeps hb22 (b := bx21) (o := 1) (v := .slice (some ⟨g221, 0, none⟩) O.length d221) (by first | (go_simp; done) | assumption)
    have f22_0 := bel_free hb22 (b := w3.heap.size) (o := 0) (by first | omega | (simp; done) | (simp; omega)) (by first | (go_simp; done) | assumption)
    have f22_1 := bel_free hb22 (b := w3.heap.size) (o := 1) (by first | omega | (simp; done) | (simp; omega)) (by first | (go_simp; done) | assumption)
    clear k21_0 k21_1 k21_2 k21_3 k21_4 k21_5 k21_6 k21_7 k21_8 r21_0 r21_1 f21_0 f21_1
    go_wp2_with fail
    go_loopw [9] (fun j wr => ∃ q : Nat, q ≤ 8 ∧ j = .int .i64 q ∧ Below w22.heap.size w22 wr) (fun j _ => 8 - (intOf j).toNat)
    case atStart => exact ⟨0, Nat.zero_le _, rfl, Below.refl _ _⟩
    case round =>
      obtain ⟨q, hq8, rfl, hbq⟩ := hrel
      have z99 := hbq.size
      (try simp at z99)
      have y99_0 : w3.heap.size < wr.heap.size := (by omega)
      have y99_1 : gp < wr.heap.size := (by omega)
      have y99_2 : b < wr.heap.size := (by omega)
      have y99_3 : bx21 < wr.heap.size := (by omega)
      have k99_0 := bel_keeps hbq (b := w3.heap.size) (o := 0) (v := .slice a1 rs'.length e1) (by first | (go_simp; done) | assumption)
      have k99_1 := bel_keeps hbq (b := w3.heap.size) (o := 1) (v := .slice a2' os.length e2') (by first | (go_simp; done) | assumption)
      have k99_2 := bel_keeps hbq (b := gp) (o := k * 6) (v := .int .i64 op) (by first | (go_simp; done) | assumption)
      have k99_3 := bel_keeps hbq (b := gp) (o := k * 6 + 1) (v := .int .i64 dst) (by first | (go_simp; done) | assumption)
      have k99_4 := bel_keeps hbq (b := gp) (o := k * 6 + 2) (v := .int .i64 sa) (by first | (go_simp; done) | assumption)
      have k99_5 := bel_keeps hbq (b := gp) (o := k * 6 + 3) (v := .int .i64 sb) (by first | (go_simp; done) | assumption)
      have k99_6 := bel_keeps hbq (b := gp) (o := k * 6 + 4) (v := .int .i64 sc) (by first | (go_simp; done) | assumption)
      have k99_7 := bel_keeps hbq (b := gp) (o := k * 6 + 5) (v := .int .i64 sn) (by first | (go_simp; done) | assumption)
      have k99_8 := bel_keeps hbq (b := b) (o := 0) (v := .int .i64 x0) (by first | (go_simp; done) | assumption)
      have k99_9 := bel_keeps hbq (b := bx21) (o := 0) (v := .slice (some ⟨g121, 0, none⟩) R.length d121) (by first | (go_simp; done) | assumption)
      have k99_10 := bel_keeps hbq (b := bx21) (o := 1) (v := .slice (some ⟨g221, 0, none⟩) O.length d221) (by first | (go_simp; done) | assumption)
      have f99_0 := bel_free hbq (b := w3.heap.size) (o := 0) (by first | omega | (simp; done) | (simp; omega)) (by first | (go_simp; done) | assumption)
      have f99_1 := bel_free hbq (b := w3.heap.size) (o := 1) (by first | omega | (simp; done) | (simp; omega)) (by first | (go_simp; done) | assumption)
      clear k22_0 k22_1 k22_2 k22_3 k22_4 k22_5 k22_6 k22_7 k22_8 k22_9 k22_10 f22_0 f22_1
      by_cases hlq : q < 8
      · obtain ⟨bs, ofs, has, hcs⟩ := (show RdC wr a1 (I64 rs') from H1.out.below (by (repeat (first | with_reducible exact Below.refl _ _ | (with_reducible refine bel_next ?_ ?_ (by assumption)) | (with_reducible refine Below.alloc ?_ ?_ _) | (with_reducible refine Below.drew ?_) | (with_reducible refine below_drewN ?_ _) | (with_reducible refine Below.setCell ?_ ?_ _))) <;> (first | omega | (simp; done) | (simp; omega)))).at q (by have := H8.out; omega)
        subst has
        have r2 := hcs q (by have := H8.out; omega)
        obtain ⟨bR, oR, haR, hcR⟩ := (show RdC wr (some ⟨g121, 0, none⟩) (I64 R) from (hO1.out.later (by (repeat (first | with_reducible exact Kp.refl _ _ | (with_reducible refine Kp.rng ?_ (by assumption) ?_) | (with_reducible refine Kp.below ?_ (by assumption)) | (with_reducible refine Kp.grown ?_ (by assumption) ?_) | (with_reducible refine Kp.alloc ?_ _) | (with_reducible refine Kp.drew ?_) | (with_reducible refine Kp.drewN ?_ _) | (with_reducible refine Kp.setCell ?_ _ ?_))) <;> (first | omega | (simp; done) | (simp; omega)))).rd).at q (by have := HR8.out; omega)
        simp only [Option.some.injEq, Addr.mk.injEq, and_true] at haR
        obtain ⟨rfl, rfl⟩ := haR
        have r1 := hcR q (by have := HR8.out; omega)
        simp only [Nat.zero_add] at r1
        have hkp := HKP.out q
        have gR : R.getD q 0 = R[q]'(by have := HR8.out; omega) := by simp [List.getD, List.getElem?_eq_getElem (show q < R.length by have := HR8.out; omega)]
        have gS : rs'.getD q 0 = rs'[q]'(by have := H8.out; omega) := by simp [List.getD, List.getElem?_eq_getElem (show q < rs'.length by have := H8.out; omega)]
        rw [gR, gS] at hkp
        obtain ⟨x, hx⟩ : ∃ x, x = R[q]'(by have := HR8.out; omega) := ⟨_, rfl⟩
        obtain ⟨y, hy⟩ : ∃ x, x = rs'[q]'(by have := H8.out; omega) := ⟨_, rfl⟩
        rw [← hx] at r1 hkp
        rw [← hy] at r2 hkp
        have hq1 : (q : Int) < (R.length : Int) := by have := HR8.out; omega
        have hq2 : (q : Int) < (rs'.length : Int) := by have := H8.out; omega
        have HC : Hid (x ≠ y → ∀ w : World, Calls Try.prog 76 #[stV ⟨op, dst, sa, sb, sc, sn⟩] w fun e w' => e = .returned (.int .i64 q) ∧ Below w.heap.size w w') := fun hne w => by
          have : writesOf ⟨op, dst, sa, sb, sc, sn⟩ = q := by
            by_cases h : (q : Int) = writesOf ⟨op, dst, sa, sb, sc, sn⟩
            · exact h.symm
            · exact absurd (hkp h) hne
          have hc := sWritesOf_any ⟨op, dst, sa, sb, sc, sn⟩ w
          rw [this] at hc; exact hc
        clear hcs hcR hkp gR gS hx hy
        have tq : ((q : Int) != (q : Int)) = false := by simp
        by_cases hxy : x = y
        all_goals
          first | (subst hxy; have tx : (x != x) = false := by simp) | (have tx : (x != y) = true := by simp [hxy])
          have HC2 := HC
          go_wp2_with fail
          refine wp_region_bel (by kernel_rfl) (by kernel_rfl) ?_
          have e0 := in_cell k99_0
          have e2 := in_cell r1
          have e3 := in_cell r2
          have s0 := in_cell k99_2
          have s1 := in_cell k99_3
          have s2 := in_cell k99_4
          have s3 := in_cell k99_5
          have s4 := in_cell k99_6
          have s5 := in_cell k99_7
          have e1' := in_cell k99_9
          repeat (go_big_quiet_step ((go_at_call 76; exact Calls.inb (HC.out hxy _))))
          refine wpQuiet_nil ?_
          rintro _ ⟨xw, rfl⟩
          have hbx : Below wr.heap.size wr xw.w := xw.ok
          clear e0 e2 e3 e1' s0 s1 s2 s3 s4 s5
          go_wp2_with fail
          go_roundw
          case rel => exact ⟨q + 1, by omega, by go_num, (by (repeat (first | with_reducible exact Below.refl _ _ | (with_reducible refine bel_next ?_ ?_ (by assumption)) | (with_reducible refine Below.alloc ?_ ?_ _) | (with_reducible refine Below.drew ?_) | (with_reducible refine below_drewN ?_ _) | (with_reducible refine Below.setCell ?_ ?_ _))) <;> (first | omega | (simp; done) | (simp; omega)))⟩
          case measure => simp [intOf]; omega
      · obtain rfl : q = 8 := by omega
        go_wp2_with fail
        go_roundw
        case rel =>
          exact ⟨k + 1, R, O, some ⟨g121, 0, none⟩, some ⟨g221, 0, none⟩, d121, d221, by omega, by go_num, HSO2.out, hOl, (by first | (go_simp; done) | assumption), (by first | (go_simp; done) | assumption), (by first | (go_simp; done) | assumption), (by first | (go_simp; done) | assumption), (hO1.out.later (by (repeat (first | with_reducible exact Kp.refl _ _ | (with_reducible refine Kp.rng ?_ (by assumption) ?_) | (with_reducible refine Kp.below ?_ (by assumption)) | (with_reducible refine Kp.grown ?_ (by assumption) ?_) | (with_reducible refine Kp.alloc ?_ _) | (with_reducible refine Kp.drew ?_) | (with_reducible refine Kp.drewN ?_ _) | (with_reducible refine Kp.setCell ?_ _ ?_))) <;> (first | omega | (simp; done) | (simp; omega)))).rd, (hO2.out.later (by (repeat (first | with_reducible exact Kp.refl _ _ | (with_reducible refine Kp.rng ?_ (by assumption) ?_) | (with_reducible refine Kp.below ?_ (by assumption)) | (with_reducible refine Kp.grown ?_ (by assumption) ?_) | (with_reducible refine Kp.alloc ?_ _) | (with_reducible refine Kp.drew ?_) | (with_reducible refine Kp.drewN ?_ _) | (with_reducible refine Kp.setCell ?_ _ ?_))) <;> (first | omega | (simp; done) | (simp; omega)))).rd, (by (repeat (first | with_reducible exact Below.refl _ _ | (with_reducible refine bel_next ?_ ?_ (by assumption)) | (with_reducible refine Below.alloc ?_ ?_ _) | (with_reducible refine Below.drew ?_) | (with_reducible refine below_drewN ?_ _) | (with_reducible refine Below.setCell ?_ ?_ _))) <;> (first | omega | (simp; done) | (simp; omega))), by first | omega | (simp [World.setCell]; omega)⟩
        case measure => simp [intOf]; omega
end Go.Proofs.Ytfeffofoofmgcaa

/- The walk of the law FnCircuits. -/
import Derived.Test.YtfpblgbokmpmjaaDrCircD
import Derived.Test.YtfpblgbokmpmjaaCircFacts
import Derived.Test.YtfpblgbokmpmjaaDepth
import Derived.Test.YtfpblgbokmpmjaaPruneF
import Derived.Test.YtfpblgbokmpmjaaEval
import Derived.Test.YtfpblgbokmpmjaaSame
import Derived.Test.YtfpblgbokmpmjaaShare
import Derived.Test.YtfpblgbokmpmjaaGate
import Derived.Test.YtfpblgbokmpmjaaKeep
import Derived.Deep.RegionHeld3
import Derived.Deep.RegionLaw
namespace Go.Proofs.Ytfpblgbokmpmjaa
open Go.RowKit
set_option linter.unusedVariables false
set_option linter.unusedSimpArgs false
theorem take_on {P : Program} {md : Region.Mode} {ops : Array Oper} {Q : Exit → Act → World → Prop} {S : World → Prop} {i : Nat} {oi : Oper} {v : Value} {fuel : Nat} {listed : Array Bool} {a : Act} {w : World} (hi : ops[i]? = some oi)
    (h : (Region.noSelect ops = true ∧ Region.free md ops listed i = true ∧ (Region.ready md ops listed).contains i = true ∧ Region.wanted oi (yielded ops a.tmps) = true) ∧ (∀ c a w, Q (.panic c) (a.put oi.dst v) w → Q (.panic c) a w) ∧
      (∀ w, S w → (execOp a.eval oi).run P w = .ok (.value v) w) ∧ S w ∧ wpAnyH P md ops Q S fuel (listed.setIfInBounds i true) (a.put oi.dst v) w) : wpAnyH P md ops Q S (fuel + 1) listed a w :=
  wpAnyH_take hi h.1.1 h.1.2.1 h.1.2.2.1 h.2.1 (.inl ⟨h.1.2.2.2, h.2.2.1⟩) h.2.2.2.1 h.2.2.2.2
theorem take_off {P : Program} {md : Region.Mode} {ops : Array Oper} {Q : Exit → Act → World → Prop} {S : World → Prop} {i : Nat} {oi : Oper} {fuel : Nat} {listed : Array Bool} {a : Act} {w : World} (hi : ops[i]? = some oi)
    (h : (Region.noSelect ops = true ∧ Region.free md ops listed i = true ∧ (Region.ready md ops listed).contains i = true ∧ Region.wanted oi (yielded ops a.tmps) = false) ∧ (∀ c a w, Q (.panic c) (a.put oi.dst undef) w → Q (.panic c) a w) ∧
      S w ∧ wpAnyH P md ops Q S fuel (listed.setIfInBounds i true) (a.put oi.dst undef) w) : wpAnyH P md ops Q S (fuel + 1) listed a w :=
  wpAnyH_take hi h.1.1 h.1.2.1 h.1.2.2.1 h.2.1 (.inr ⟨h.1.2.2.2, rfl⟩) h.2.2.1 h.2.2.2
theorem RdC.elemC {w : World} {b off : Nat} {xs : List Int} (h : RdC w (some ⟨b, off, none⟩) (I64 xs)) (k : Nat) (hk : k < xs.length) : w.cell? ⟨b, off + k, none⟩ = some (.int .i64 (at0 xs (k : Int))) := by
  obtain ⟨b', off', e, _, hc⟩ := h.int k hk
  cases e
  exact hc
theorem outsOf_at (ws os : List Int) (j : Nat) (h : j < os.length) : at0 (outsOf ws os) (j : Int) = at0 ws (at0 os (j : Int)) := by
  unfold outsOf
  rw [at0_nat, at0_nat]
  simp [List.getD, h]
theorem at0_in {gs : List Gt} {os : List Int} (h : allB os 0 ((gs.length : Int) - 1) = true) {k : Nat} (hk : k < os.length) : 0 ≤ at0 os (k : Int) ∧ at0 os (k : Int) < gs.length := by
  have := allB_iff.1 h os[k] (List.getElem_mem hk)
  have e : at0 os (k : Int) = os[k] := by rw [at0_nat]; simp [List.getD, hk]
  rw [e]; omega
set_option maxRecDepth 20000 in
set_option maxHeartbeats 16000000 in
theorem walk_FnCircuits (w : World) (xs : List Int) (ad : Option Addr) (c : Nat) (hm : xs.length ≤ maxLen) (hr : RdC w ad (xs.map (Value.int .u8))) (hb : ∀ x ∈ xs, 0 ≤ x ∧ x ≤ 255) :
    Calls Try.prog 13 #[.slice ad xs.length c] w fun e w' => e = .returned (.bool true) ∧ Below w.heap.size w w' := by
  unfold maxLen at hm
  by_cases hsz : xs.length ≤ 1048576
  case neg =>
    go_enter Try.func13, Try.ntmps13
    go_wp2_with (first | (go_at_call 44; go_in) | fail)
    go_ret
    exact ⟨rfl, Below.refl _ _⟩
  go_enter Try.func13, Try.ntmps13
  go_wp2_with (first | (go_at_call 44; go_in) | fail)
  refine (DrawCircuit_any xs ad c w hsz hr hb).mono ?_
  rintro e w1 ⟨g1, c1, g2, c2, gb, cb, gs, os, bs, rfl, hdc, hbits, ho1, ho2, hob, hne, hb1⟩
  have hgl1 := hdc.g1
  have hgl2 := hdc.g2
  have hol1 := hdc.o1
  have hol2 := hdc.o2
  have hm0 : gs.length ≤ 1048576 := by omega
  have hm1 : os.length ≤ 1048576 := by omega
  have HOKC := Lib.hid hdc.ok
  have HBITS := Lib.hid hbits
  have HR1 := Lib.hid ho1.rd
  have HR2 := Lib.hid ho2.rd
  have HRB := Lib.hid hob.rd
  have z1 := hb1.size
  have ge1 := ho1.ge
  have ge2 := ho2.ge
  have geb := hob.ge
  have HO1 := Lib.hid ho1
  have HO2 := Lib.hid ho2
  clear hdc hbits ho1 ho2 hob hr hb
  have hok := HOKC.out
  have HGT := Lib.hid (circ_parts hok).1
  have HOB := Lib.hid (circ_parts hok).2.1
  have hbp : bs.length = 80 ∧ allB bs 0 1 = true := by have := HBITS.out; simpa only [bitsB, Bool.and_eq_true, decide_eq_true_eq] using this
  have hbl := hbp.1
  have HBL := Lib.hid hbp.1
  have HAB := Lib.hid hbp.2
  have hmb : bs.length ≤ 1048576 := by omega
  have HB1 : Hid (evalB gs os bs = true) := by show _ = _; unfold evalB; rw [hok, HBITS.out]; rfl
  obtain ⟨EW, hEW⟩ : ∃ x, x = evalW bs gs := ⟨_, rfl⟩
  obtain ⟨EO, hEO⟩ : ∃ x, x = outsOf EW os := ⟨_, rfl⟩
  have HEL : Hid (EW.length = gs.length) := by show _ = _; rw [hEW, evalW_len]
  have HEB : Hid (allB EW 0 1 = true) := by show _ = _; rw [hEW]; exact evalW_b HAB.out gs HGT.out
  have HE1 : Hid (evalWires gs os bs = EW) := by show _ = _; unfold evalWires; rw [if_pos HB1.out, hEW]
  have HE2 : Hid (evalOuts gs os bs = EO) := by show _ = _; unfold evalOuts; rw [if_pos HB1.out, hEO, hEW]
  have HOL : Hid (EO.length = os.length) := by show _ = _; rw [hEO]; simp [outsOf]
  have HEW := Lib.hid hEW
  have HEO := Lib.hid hEO
  have HC1 : Hid (circOk gs os = true) := hok
  obtain ⟨d, hd⟩ : ∃ d, d = depM gs := ⟨_, rfl⟩
  obtain ⟨n, hn⟩ : ∃ n, n = cntG 4 gs := ⟨_, rfl⟩
  have hdb := depM_b gs
  have hcnt := (depM_cnt gs).1
  have hcl := cntG_le 4 gs
  rw [← hd] at hdb hcnt
  rw [← hn] at hcnt hcl
  have HD1 : Hid (andDepth gs os = d) := by show _ = _; unfold andDepth; rw [if_pos HOKC.out, hd]
  have HN := Lib.hid hn
  clear hok hbp hEW hEO hd hn hbl
  go_wp2_with fail
  obtain ⟨w2, hw2⟩ : ∃ W, W = w1.alloc (.cells #[.slice (some ⟨g1, 0, none⟩) gs.length c1, .slice (some ⟨g2, 0, none⟩) os.length c2] 30) := ⟨_, rfl⟩
  rw [← hw2]
  have hb2 : Below w1.heap.size w1 w2 := by rw [hw2]; exact (Below.refl _ _).alloc (Nat.le_refl _) _
  have x2 : w1.heap.size < w2.heap.size := by rw [hw2]; simp
  have z2 := hb2.size
  (try simp at z2)
  have kb2_0 : w2.cell? ⟨w1.heap.size, 0, none⟩ = some (.slice (some ⟨g1, 0, none⟩) gs.length c1) := by rw [hw2]; go_simp
  have kb2_1 : w2.cell? ⟨w1.heap.size, 1, none⟩ = some (.slice (some ⟨g2, 0, none⟩) os.length c2) := by rw [hw2]; go_simp
  clear hw2
  go_wp2_with fail
  have hcc := iEvalWires_any gs os bs (some ⟨g1, 0, none⟩) (some ⟨g2, 0, none⟩) (some ⟨gb, 0, none⟩) c1 c2 cb w2 hm0 hm1 hmb (HR1.out.below (by (repeat (first | with_reducible exact Below.refl _ _ | (with_reducible refine bel_next ?_ ?_ (by assumption)) | (with_reducible refine Below.alloc ?_ ?_ _) | (with_reducible refine Below.drew ?_) | (with_reducible refine below_drewN ?_ _) | (with_reducible refine Below.setCell ?_ ?_ _))) <;> (first | omega | (simp; done) | (simp; omega)))) (HR2.out.below (by (repeat (first | with_reducible exact Below.refl _ _ | (with_reducible refine bel_next ?_ ?_ (by assumption)) | (with_reducible refine Below.alloc ?_ ?_ _) | (with_reducible refine Below.drew ?_) | (with_reducible refine below_drewN ?_ _) | (with_reducible refine Below.setCell ?_ ?_ _))) <;> (first | omega | (simp; done) | (simp; omega)))) (HRB.out.below (by (repeat (first | with_reducible exact Below.refl _ _ | (with_reducible refine bel_next ?_ ?_ (by assumption)) | (with_reducible refine Below.alloc ?_ ?_ _) | (with_reducible refine Below.drew ?_) | (with_reducible refine below_drewN ?_ _) | (with_reducible refine Below.setCell ?_ ?_ _))) <;> (first | omega | (simp; done) | (simp; omega))))
  rw [HE1.out, HEL.out] at hcc
  refine hcc.mono ?_
  clear hcc
  rintro e w3 ⟨aw, cw, rfl, how, hb3⟩
  have HW := Lib.hid how.rd
  clear how
  have z3 := hb3.size
  (try simp at z3)
  have y3_0 : w1.heap.size < w3.heap.size := (by omega)
  have k3_0 := bel_keeps hb3 (b := w1.heap.size) (o := 0) (v := .slice (some ⟨g1, 0, none⟩) gs.length c1) (by first | (go_simp; done) | assumption)
  have k3_1 := bel_keeps hb3 (b := w1.heap.size) (o := 1) (v := .slice (some ⟨g2, 0, none⟩) os.length c2) (by first | (go_simp; done) | assumption)
  clear kb2_0 kb2_1
  go_wp2_with fail
  have hcc := iEvalCircuit_any gs os bs (some ⟨g1, 0, none⟩) (some ⟨g2, 0, none⟩) (some ⟨gb, 0, none⟩) c1 c2 cb w3 hm0 hm1 hmb (HR1.out.below (by (repeat (first | with_reducible exact Below.refl _ _ | (with_reducible refine bel_next ?_ ?_ (by assumption)) | (with_reducible refine Below.alloc ?_ ?_ _) | (with_reducible refine Below.drew ?_) | (with_reducible refine below_drewN ?_ _) | (with_reducible refine Below.setCell ?_ ?_ _))) <;> (first | omega | (simp; done) | (simp; omega)))) (HR2.out.below (by (repeat (first | with_reducible exact Below.refl _ _ | (with_reducible refine bel_next ?_ ?_ (by assumption)) | (with_reducible refine Below.alloc ?_ ?_ _) | (with_reducible refine Below.drew ?_) | (with_reducible refine below_drewN ?_ _) | (with_reducible refine Below.setCell ?_ ?_ _))) <;> (first | omega | (simp; done) | (simp; omega)))) (HRB.out.below (by (repeat (first | with_reducible exact Below.refl _ _ | (with_reducible refine bel_next ?_ ?_ (by assumption)) | (with_reducible refine Below.alloc ?_ ?_ _) | (with_reducible refine Below.drew ?_) | (with_reducible refine below_drewN ?_ _) | (with_reducible refine Below.setCell ?_ ?_ _))) <;> (first | omega | (simp; done) | (simp; omega))))
  rw [HE2.out, HOL.out, HB1.out] at hcc
  refine hcc.mono ?_
  clear hcc
  rintro e w4 ⟨ao, co, rfl, hoo, hb4⟩
  have HO := Lib.hid hoo.rd
  clear hoo
  have z4 := hb4.size
  (try simp at z4)
  have y4_0 : w1.heap.size < w4.heap.size := (by omega)
  have k4_0 := bel_keeps hb4 (b := w1.heap.size) (o := 0) (v := .slice (some ⟨g1, 0, none⟩) gs.length c1) (by first | (go_simp; done) | assumption)
  have k4_1 := bel_keeps hb4 (b := w1.heap.size) (o := 1) (v := .slice (some ⟨g2, 0, none⟩) os.length c2) (by first | (go_simp; done) | assumption)
  clear k3_0 k3_1
  obtain ⟨bw, fw, rfl, _, _⟩ := HW.out.int 0 (by rw [HEL.out]; omega)
  obtain ⟨bo, fo, rfl, _, _⟩ := HO.out.int 0 (by rw [HOL.out]; omega)
  have HQ1 := Lib.hid (show RdC w4 (some ⟨g1, 0, none⟩) (gtCells gs) from HR1.out.below (by (repeat (first | with_reducible exact Below.refl _ _ | (with_reducible refine bel_next ?_ ?_ (by assumption)) | (with_reducible refine Below.alloc ?_ ?_ _) | (with_reducible refine Below.drew ?_) | (with_reducible refine below_drewN ?_ _) | (with_reducible refine Below.setCell ?_ ?_ _))) <;> (first | omega | (simp; done) | (simp; omega))))
  have HQ2 := Lib.hid (show RdC w4 (some ⟨g2, 0, none⟩) (I64 os) from HR2.out.below (by (repeat (first | with_reducible exact Below.refl _ _ | (with_reducible refine bel_next ?_ ?_ (by assumption)) | (with_reducible refine Below.alloc ?_ ?_ _) | (with_reducible refine Below.drew ?_) | (with_reducible refine below_drewN ?_ _) | (with_reducible refine Below.setCell ?_ ?_ _))) <;> (first | omega | (simp; done) | (simp; omega))))
  have HQB := Lib.hid (show RdC w4 (some ⟨gb, 0, none⟩) (I64 bs) from HRB.out.below (by (repeat (first | with_reducible exact Below.refl _ _ | (with_reducible refine bel_next ?_ ?_ (by assumption)) | (with_reducible refine Below.alloc ?_ ?_ _) | (with_reducible refine Below.drew ?_) | (with_reducible refine below_drewN ?_ _) | (with_reducible refine Below.setCell ?_ ?_ _))) <;> (first | omega | (simp; done) | (simp; omega))))
  have HQW := Lib.hid (show RdC w4 (some ⟨bw, fw, none⟩) (I64 EW) from HW.out.below (by (repeat (first | with_reducible exact Below.refl _ _ | (with_reducible refine bel_next ?_ ?_ (by assumption)) | (with_reducible refine Below.alloc ?_ ?_ _) | (with_reducible refine Below.drew ?_) | (with_reducible refine below_drewN ?_ _) | (with_reducible refine Below.setCell ?_ ?_ _))) <;> (first | omega | (simp; done) | (simp; omega))))
  have HQO := Lib.hid (show RdC w4 (some ⟨bo, fo, none⟩) (I64 EO) from HO.out.below (by (repeat (first | with_reducible exact Below.refl _ _ | (with_reducible refine bel_next ?_ ?_ (by assumption)) | (with_reducible refine Below.alloc ?_ ?_ _) | (with_reducible refine Below.drew ?_) | (with_reducible refine below_drewN ?_ _) | (with_reducible refine Below.setCell ?_ ?_ _))) <;> (first | omega | (simp; done) | (simp; omega))))
  have hbp0 : w1.heap.size < w4.heap.size := by omega
  have hbw1 : Below w.heap.size w w4 := (by (repeat (first | with_reducible exact Below.refl _ _ | (with_reducible refine bel_next ?_ ?_ (by assumption)) | (with_reducible refine Below.alloc ?_ ?_ _) | (with_reducible refine Below.drew ?_) | (with_reducible refine below_drewN ?_ _) | (with_reducible refine Below.setCell ?_ ?_ _))) <;> (first | omega | (simp; done) | (simp; omega)))
  clear HR1 HR2 HRB HW HO hb1 hb2 hb3 hb4
  go_wp2_with fail
  go_loopw [8] (fun i wr => ∃ k : Nat, k ≤ gs.length ∧ i = .int .i64 k ∧ wr.cell? ⟨w1.heap.size, 0, none⟩ = some (.slice (some ⟨g1, 0, none⟩) gs.length c1) ∧ wr.cell? ⟨w1.heap.size, 1, none⟩ = some (.slice (some ⟨g2, 0, none⟩) os.length c2) ∧ Below w.heap.size w wr ∧ Below w4.heap.size w4 wr) (fun i _ => gs.length - (intOf i).toNat)
  case atStart => exact ⟨0, Nat.zero_le _, rfl, k4_0, k4_1, hbw1, Below.refl _ _⟩
  case round =>
    clear hbw1 k4_0 k4_1
    obtain ⟨k, hk, rfl, k0, k1, hbw, hbg⟩ := hrel
    have zr := hbw.size
    have zg := hbg.size
    by_cases hlt : k < gs.length
    · obtain ⟨b, off, gk, ga, gb', e9, hbl, hx, d0, d1, d2⟩ := (HQ1.out.below hbg).gt k hlt
      cases e9
      rw [Nat.zero_add] at d0 d1 d2
      have hgo := gtsOk_at HGT.out hx
      have hEV := evalW_at bs hx hlt
      have hvb := at0_b (i := (k : Int)) HEB.out (by omega) (by omega)
      have e1 := (HQW.out.below hbg).elemC k (by rw [HEL.out]; exact hlt)
      obtain ⟨v, hv⟩ : ∃ v, v = at0 EW (k : Int) := ⟨_, rfl⟩
      rw [← hv] at e1 hvb
      rw [← HEW.out, ← hv] at hEV
      obtain ⟨v0, v1⟩ := hvb
      have HV := Lib.hid hEV
      have HGO := Lib.hid (show gateOk gk ga gb' (k : Int) = true from hgo)
      have HPRE := Lib.hid (show ∀ i : Int, 0 ≤ i → i < k → at0 (evalW bs (gs.take k)) i = at0 EW i from fun i h0 h1 => by rw [HEW.out]; exact (at0_evalW_take h0 h1 (by omega)).symm)
      have hli : (k : Int) < (gs.length : Int) := by omega
      clear hv hx hEV
      have nb : wr.heap.size ≠ w1.heap.size := by omega
      have gcs := gate_cases (show gateOk gk ga gb' k = true from hgo)
      clear hgo
      rcases gcs with ⟨rfl, rfl, q1, q2⟩ | ⟨rfl, rfl, q1, q2⟩ | ⟨rfl, q1, q2, q3, q4⟩ | ⟨rfl, q1, q2, q3, q4⟩ | ⟨rfl, rfl, q1, q2⟩
      · as_aux_lemma =>
          obtain ⟨n1, rfl⟩ := Int.eq_ofNat_of_zero_le q1
          have c1x := (HQB.out.below hbg).elemC n1 (by have := HBL.out; omega)
          rw [Nat.zero_add] at c1x
          have hv1 : v = at0 bs n1 := by rw [HV.out]; simp [gval]
          rw [← hv1] at c1x
          have n1b : (n1 : Int) < (bs.length : Int) := by have := HBL.out; omega
          clear hv1
          have e1a := cell_al (o := .cells #[.int .i64 1, .int .i64 (n1 : Int), .int .i64 0] 50) e1
          have c1xa := cell_al (o := .cells #[.int .i64 1, .int .i64 (n1 : Int), .int .i64 0] 50) c1x
          have k0a := cell_al (o := .cells #[.int .i64 1, .int .i64 (n1 : Int), .int .i64 0] 50) k0
          have k1a := cell_al (o := .cells #[.int .i64 1, .int .i64 (n1 : Int), .int .i64 0] 50) k1
          have nv0 : ¬ (v) < (0 : Int) := by omega
          have nv1 : ¬ (1 : Int) < (v) := by omega
          go_wp2_with fail
          (try simp only [List.append_eq, List.cons_append, List.nil_append])
          refine wp_region_held_drew (S := fun w' => w'.cell? ⟨wr.heap.size, 0, none⟩ = some (.int .i64 1) ∧ w'.cell? ⟨wr.heap.size, 1, none⟩ = some (.int .i64 (n1 : Int)) ∧ w'.cell? ⟨wr.heap.size, 2, none⟩ = some (.int .i64 0) ∧ w'.cell? ⟨gb, n1, none⟩ = some (.int .i64 (v)) ∧ w'.cell? ⟨w1.heap.size, 0, none⟩ = some (.slice (some ⟨g1, 0, none⟩) gs.length c1) ∧ w'.cell? ⟨w1.heap.size, 1, none⟩ = some (.slice (some ⟨g2, 0, none⟩) os.length c2)) (by kernel_rfl) ?_ (fun hS => ?_)
          · first | go_keep | (dsimp only; go_keep)
          refine take_on (i := 0) (v := ?_) (by simp only [List.getElem?_toArray, List.getElem?_cons_succ, List.getElem?_cons_zero]; rfl) ?_
          rotate_left
          refine ⟨⟨by as_aux_lemma => kernel_rfl, by as_aux_lemma => kernel_rfl, by as_aux_lemma => kernel_rfl, by rfl⟩, fun _ _ _ h => h, ?_, hS, ?_⟩
          · intro W9 hW9; (try dsimp only at hW9); go_simp; try with_reducible rfl
          simp only [Act.put, List.setIfInBounds_toArray]
          dsimp only [List.set_cons_zero, List.set_cons_succ]
          refine take_on (i := 1) (v := ?_) (by simp only [List.getElem?_toArray, List.getElem?_cons_succ, List.getElem?_cons_zero]; rfl) ?_
          rotate_left
          refine ⟨⟨by as_aux_lemma => kernel_rfl, by as_aux_lemma => kernel_rfl, by as_aux_lemma => kernel_rfl, by rfl⟩, fun _ _ _ h => h, ?_, hS, ?_⟩
          · intro W9 hW9; (try dsimp only at hW9); go_simp; try with_reducible rfl
          simp only [Act.put, List.setIfInBounds_toArray]
          dsimp only [List.set_cons_zero, List.set_cons_succ]
          refine wpAnyH_ready (rs := [2]) (by kernel_rfl) (by simp) ?_
          refine AllReadyH.cons (by simp only [List.getElem?_toArray, List.getElem?_cons_succ, List.getElem?_cons_zero]; rfl) (fun K hK => ?_) AllReadyH.nil
          go_simp
          go_at_call 46; refine (iGateOk_any 1 (n1 : Int) 0 (k : Int) _).mono ?_; rintro e v3 ⟨rfl, hv3⟩; rw [HGO.out]; have zv := hv3.size; (try simp at zv); have e1k := bel_keeps hv3 e1a; have c1xk := bel_keeps hv3 c1xa; have k0k := bel_keeps hv3 k0a; have k1k := bel_keeps hv3 k1a; have g0k := bel_keeps hv3 (b := wr.heap.size) (o := 0) (v := .int .i64 1) (by first | (go_simp; done) | assumption); have g1k := bel_keeps hv3 (b := wr.heap.size) (o := 1) (v := .int .i64 (n1 : Int)) (by first | (go_simp; done) | assumption); have g2k := bel_keeps hv3 (b := wr.heap.size) (o := 2) (v := .int .i64 0) (by first | (go_simp; done) | assumption)
          go_wp2_with fail
          refine hK.out _ _ ?_ (fun hS => ?_)
          · first | go_keep | (dsimp only; go_keep)
          clear hK K
          (try simp only [Act.put, List.setIfInBounds_toArray])
          (try dsimp only [List.set_cons_zero, List.set_cons_succ])
          refine take_on (i := 3) (v := ?_) (by simp only [List.getElem?_toArray, List.getElem?_cons_succ, List.getElem?_cons_zero]; rfl) ?_
          rotate_left
          refine ⟨⟨by as_aux_lemma => kernel_rfl, by as_aux_lemma => kernel_rfl, by as_aux_lemma => kernel_rfl, by rfl⟩, fun _ _ _ h => h, ?_, hS, ?_⟩
          · intro W9 hW9; (try dsimp only at hW9); go_simp; try with_reducible rfl
          simp only [Act.put, List.setIfInBounds_toArray]
          dsimp only [List.set_cons_zero, List.set_cons_succ]
          refine take_on (i := 4) (v := ?_) (by simp only [List.getElem?_toArray, List.getElem?_cons_succ, List.getElem?_cons_zero]; rfl) ?_
          rotate_left
          refine ⟨⟨by as_aux_lemma => kernel_rfl, by as_aux_lemma => kernel_rfl, by as_aux_lemma => kernel_rfl, by rfl⟩, fun _ _ _ h => h, ?_, hS, ?_⟩
          · intro W9 hW9; (try dsimp only at hW9); go_simp; try with_reducible rfl
          simp only [Act.put, List.setIfInBounds_toArray]
          dsimp only [List.set_cons_zero, List.set_cons_succ]
          refine take_on (i := 5) (v := ?_) (by simp only [List.getElem?_toArray, List.getElem?_cons_succ, List.getElem?_cons_zero]; rfl) ?_
          rotate_left
          refine ⟨⟨by as_aux_lemma => kernel_rfl, by as_aux_lemma => kernel_rfl, by as_aux_lemma => kernel_rfl, by rfl⟩, fun _ _ _ h => h, ?_, hS, ?_⟩
          · intro W9 hW9; (try dsimp only at hW9); go_simp; try with_reducible rfl
          simp only [Act.put, List.setIfInBounds_toArray]
          dsimp only [List.set_cons_zero, List.set_cons_succ]
          refine take_on (i := 6) (v := .bool false) (by simp only [List.getElem?_toArray, List.getElem?_cons_succ, List.getElem?_cons_zero]; rfl) ?_
          refine ⟨⟨by as_aux_lemma => kernel_rfl, by as_aux_lemma => kernel_rfl, by as_aux_lemma => kernel_rfl, by rfl⟩, fun _ _ _ h => h, ?_, hS, ?_⟩
          · intro W9 hW9; (try dsimp only at hW9); go_simp <;> (first | done | omega | (simp; done) | (simp; omega))
          simp only [Act.put, List.setIfInBounds_toArray]
          dsimp only [List.set_cons_zero, List.set_cons_succ]
          refine take_on (i := 7) (v := ?_) (by simp only [List.getElem?_toArray, List.getElem?_cons_succ, List.getElem?_cons_zero]; rfl) ?_
          rotate_left
          refine ⟨⟨by as_aux_lemma => kernel_rfl, by as_aux_lemma => kernel_rfl, by as_aux_lemma => kernel_rfl, by rfl⟩, fun _ _ _ h => h, ?_, hS, ?_⟩
          · intro W9 hW9; (try dsimp only at hW9); go_simp; try with_reducible rfl
          simp only [Act.put, List.setIfInBounds_toArray]
          dsimp only [List.set_cons_zero, List.set_cons_succ]
          refine take_on (i := 8) (v := ?_) (by simp only [List.getElem?_toArray, List.getElem?_cons_succ, List.getElem?_cons_zero]; rfl) ?_
          rotate_left
          refine ⟨⟨by as_aux_lemma => kernel_rfl, by as_aux_lemma => kernel_rfl, by as_aux_lemma => kernel_rfl, by rfl⟩, fun _ _ _ h => h, ?_, hS, ?_⟩
          · intro W9 hW9; (try dsimp only at hW9); go_simp; try with_reducible rfl
          simp only [Act.put, List.setIfInBounds_toArray]
          dsimp only [List.set_cons_zero, List.set_cons_succ]
          refine take_on (i := 9) (v := ?_) (by simp only [List.getElem?_toArray, List.getElem?_cons_succ, List.getElem?_cons_zero]; rfl) ?_
          rotate_left
          refine ⟨⟨by as_aux_lemma => kernel_rfl, by as_aux_lemma => kernel_rfl, by as_aux_lemma => kernel_rfl, by rfl⟩, fun _ _ _ h => h, ?_, hS, ?_⟩
          · intro W9 hW9; (try dsimp only at hW9); go_simp; try with_reducible rfl
          simp only [Act.put, List.setIfInBounds_toArray]
          dsimp only [List.set_cons_zero, List.set_cons_succ]
          refine take_on (i := 10) (v := .bool false) (by simp only [List.getElem?_toArray, List.getElem?_cons_succ, List.getElem?_cons_zero]; rfl) ?_
          refine ⟨⟨by as_aux_lemma => kernel_rfl, by as_aux_lemma => kernel_rfl, by as_aux_lemma => kernel_rfl, by rfl⟩, fun _ _ _ h => h, ?_, hS, ?_⟩
          · intro W9 hW9; (try dsimp only at hW9); go_simp <;> (first | done | omega | (simp; done) | (simp; omega))
          simp only [Act.put, List.setIfInBounds_toArray]
          dsimp only [List.set_cons_zero, List.set_cons_succ]
          refine take_on (i := 11) (v := ?_) (by simp only [List.getElem?_toArray, List.getElem?_cons_succ, List.getElem?_cons_zero]; rfl) ?_
          rotate_left
          refine ⟨⟨by as_aux_lemma => kernel_rfl, by as_aux_lemma => kernel_rfl, by as_aux_lemma => kernel_rfl, by rfl⟩, fun _ _ _ h => h, ?_, hS, ?_⟩
          · intro W9 hW9; (try dsimp only at hW9); go_simp; try with_reducible rfl
          simp only [Act.put, List.setIfInBounds_toArray]
          dsimp only [List.set_cons_zero, List.set_cons_succ]
          refine take_on (i := 12) (v := ?_) (by simp only [List.getElem?_toArray, List.getElem?_cons_succ, List.getElem?_cons_zero]; rfl) ?_
          rotate_left
          refine ⟨⟨by as_aux_lemma => kernel_rfl, by as_aux_lemma => kernel_rfl, by as_aux_lemma => kernel_rfl, by rfl⟩, fun _ _ _ h => h, ?_, hS, ?_⟩
          · intro W9 hW9; (try dsimp only at hW9); go_simp; try with_reducible rfl
          simp only [Act.put, List.setIfInBounds_toArray]
          dsimp only [List.set_cons_zero, List.set_cons_succ]
          refine take_on (i := 13) (v := ?_) (by simp only [List.getElem?_toArray, List.getElem?_cons_succ, List.getElem?_cons_zero]; rfl) ?_
          rotate_left
          refine ⟨⟨by as_aux_lemma => kernel_rfl, by as_aux_lemma => kernel_rfl, by as_aux_lemma => kernel_rfl, by rfl⟩, fun _ _ _ h => h, ?_, hS, ?_⟩
          · intro W9 hW9; (try dsimp only at hW9); go_simp; try with_reducible rfl
          simp only [Act.put, List.setIfInBounds_toArray]
          dsimp only [List.set_cons_zero, List.set_cons_succ]
          refine take_on (i := 14) (v := ?_) (by simp only [List.getElem?_toArray, List.getElem?_cons_succ, List.getElem?_cons_zero]; rfl) ?_
          rotate_left
          refine ⟨⟨by as_aux_lemma => kernel_rfl, by as_aux_lemma => kernel_rfl, by as_aux_lemma => kernel_rfl, by rfl⟩, fun _ _ _ h => h, ?_, hS, ?_⟩
          · intro W9 hW9; (try dsimp only at hW9); go_simp; try with_reducible rfl
          simp only [Act.put, List.setIfInBounds_toArray]
          dsimp only [List.set_cons_zero, List.set_cons_succ]
          refine take_on (i := 15) (v := ?_) (by simp only [List.getElem?_toArray, List.getElem?_cons_succ, List.getElem?_cons_zero]; rfl) ?_
          rotate_left
          refine ⟨⟨by as_aux_lemma => kernel_rfl, by as_aux_lemma => kernel_rfl, by as_aux_lemma => kernel_rfl, by rfl⟩, fun _ _ _ h => h, ?_, hS, ?_⟩
          · intro W9 hW9; (try dsimp only at hW9); go_simp; try with_reducible rfl
          simp only [Act.put, List.setIfInBounds_toArray]
          dsimp only [List.set_cons_zero, List.set_cons_succ]
          refine take_on (i := 16) (v := ?_) (by simp only [List.getElem?_toArray, List.getElem?_cons_succ, List.getElem?_cons_zero]; rfl) ?_
          rotate_left
          refine ⟨⟨by as_aux_lemma => kernel_rfl, by as_aux_lemma => kernel_rfl, by as_aux_lemma => kernel_rfl, by rfl⟩, fun _ _ _ h => h, ?_, hS, ?_⟩
          · intro W9 hW9; (try dsimp only at hW9); go_simp; try with_reducible rfl
          simp only [Act.put, List.setIfInBounds_toArray]
          dsimp only [List.set_cons_zero, List.set_cons_succ]
          refine take_on (i := 17) (v := ?_) (by simp only [List.getElem?_toArray, List.getElem?_cons_succ, List.getElem?_cons_zero]; rfl) ?_
          rotate_left
          refine ⟨⟨by as_aux_lemma => kernel_rfl, by as_aux_lemma => kernel_rfl, by as_aux_lemma => kernel_rfl, by rfl⟩, fun _ _ _ h => h, ?_, hS, ?_⟩
          · intro W9 hW9; (try dsimp only at hW9); go_simp; try with_reducible rfl
          simp only [Act.put, List.setIfInBounds_toArray]
          dsimp only [List.set_cons_zero, List.set_cons_succ]
          refine take_on (i := 18) (v := ?_) (by simp only [List.getElem?_toArray, List.getElem?_cons_succ, List.getElem?_cons_zero]; rfl) ?_
          rotate_left
          refine ⟨⟨by as_aux_lemma => kernel_rfl, by as_aux_lemma => kernel_rfl, by as_aux_lemma => kernel_rfl, by rfl⟩, fun _ _ _ h => h, ?_, hS, ?_⟩
          · intro W9 hW9; (try dsimp only at hW9); go_simp; try with_reducible rfl
          simp only [Act.put, List.setIfInBounds_toArray]
          dsimp only [List.set_cons_zero, List.set_cons_succ]
          refine take_on (i := 19) (v := ?_) (by simp only [List.getElem?_toArray, List.getElem?_cons_succ, List.getElem?_cons_zero]; rfl) ?_
          rotate_left
          refine ⟨⟨by as_aux_lemma => kernel_rfl, by as_aux_lemma => kernel_rfl, by as_aux_lemma => kernel_rfl, by rfl⟩, fun _ _ _ h => h, ?_, hS, ?_⟩
          · intro W9 hW9; (try dsimp only at hW9); go_simp; try with_reducible rfl
          simp only [Act.put, List.setIfInBounds_toArray]
          dsimp only [List.set_cons_zero, List.set_cons_succ]
          refine take_on (i := 20) (v := ?_) (by simp only [List.getElem?_toArray, List.getElem?_cons_succ, List.getElem?_cons_zero]; rfl) ?_
          rotate_left
          refine ⟨⟨by as_aux_lemma => kernel_rfl, by as_aux_lemma => kernel_rfl, by as_aux_lemma => kernel_rfl, by rfl⟩, fun _ _ _ h => h, ?_, hS, ?_⟩
          · intro W9 hW9; (try dsimp only at hW9); go_simp; try with_reducible rfl
          simp only [Act.put, List.setIfInBounds_toArray]
          dsimp only [List.set_cons_zero, List.set_cons_succ]
          refine take_on (i := 21) (v := ?_) (by simp only [List.getElem?_toArray, List.getElem?_cons_succ, List.getElem?_cons_zero]; rfl) ?_
          rotate_left
          refine ⟨⟨by as_aux_lemma => kernel_rfl, by as_aux_lemma => kernel_rfl, by as_aux_lemma => kernel_rfl, by rfl⟩, fun _ _ _ h => h, ?_, hS, ?_⟩
          · intro W9 hW9; (try dsimp only at hW9); go_simp; try with_reducible rfl
          simp only [Act.put, List.setIfInBounds_toArray]
          dsimp only [List.set_cons_zero, List.set_cons_succ]
          refine take_on (i := 22) (v := ?_) (by simp only [List.getElem?_toArray, List.getElem?_cons_succ, List.getElem?_cons_zero]; rfl) ?_
          rotate_left
          refine ⟨⟨by as_aux_lemma => kernel_rfl, by as_aux_lemma => kernel_rfl, by as_aux_lemma => kernel_rfl, by rfl⟩, fun _ _ _ h => h, ?_, hS, ?_⟩
          · intro W9 hW9; (try dsimp only at hW9); go_simp; try with_reducible rfl
          simp only [Act.put, List.setIfInBounds_toArray]
          dsimp only [List.set_cons_zero, List.set_cons_succ]
          refine take_on (i := 23) (v := .bool false) (by simp only [List.getElem?_toArray, List.getElem?_cons_succ, List.getElem?_cons_zero]; rfl) ?_
          refine ⟨⟨by as_aux_lemma => kernel_rfl, by as_aux_lemma => kernel_rfl, by as_aux_lemma => kernel_rfl, by rfl⟩, fun _ _ _ h => h, ?_, hS, ?_⟩
          · intro W9 hW9; (try dsimp only at hW9); go_simp <;> (first | done | omega | (simp; done) | (simp; omega))
          simp only [Act.put, List.setIfInBounds_toArray]
          dsimp only [List.set_cons_zero, List.set_cons_succ]
          refine take_on (i := 24) (v := ?_) (by simp only [List.getElem?_toArray, List.getElem?_cons_succ, List.getElem?_cons_zero]; rfl) ?_
          rotate_left
          refine ⟨⟨by as_aux_lemma => kernel_rfl, by as_aux_lemma => kernel_rfl, by as_aux_lemma => kernel_rfl, by rfl⟩, fun _ _ _ h => h, ?_, hS, ?_⟩
          · intro W9 hW9; (try dsimp only at hW9); go_simp; try with_reducible rfl
          simp only [Act.put, List.setIfInBounds_toArray]
          dsimp only [List.set_cons_zero, List.set_cons_succ]
          refine take_on (i := 25) (v := ?_) (by simp only [List.getElem?_toArray, List.getElem?_cons_succ, List.getElem?_cons_zero]; rfl) ?_
          rotate_left
          refine ⟨⟨by as_aux_lemma => kernel_rfl, by as_aux_lemma => kernel_rfl, by as_aux_lemma => kernel_rfl, by rfl⟩, fun _ _ _ h => h, ?_, hS, ?_⟩
          · intro W9 hW9; (try dsimp only at hW9); go_simp; try with_reducible rfl
          simp only [Act.put, List.setIfInBounds_toArray]
          dsimp only [List.set_cons_zero, List.set_cons_succ]
          refine take_on (i := 26) (v := ?_) (by simp only [List.getElem?_toArray, List.getElem?_cons_succ, List.getElem?_cons_zero]; rfl) ?_
          rotate_left
          refine ⟨⟨by as_aux_lemma => kernel_rfl, by as_aux_lemma => kernel_rfl, by as_aux_lemma => kernel_rfl, by rfl⟩, fun _ _ _ h => h, ?_, hS, ?_⟩
          · intro W9 hW9; (try dsimp only at hW9); go_simp; try with_reducible rfl
          simp only [Act.put, List.setIfInBounds_toArray]
          dsimp only [List.set_cons_zero, List.set_cons_succ]
          refine take_on (i := 27) (v := ?_) (by simp only [List.getElem?_toArray, List.getElem?_cons_succ, List.getElem?_cons_zero]; rfl) ?_
          rotate_left
          refine ⟨⟨by as_aux_lemma => kernel_rfl, by as_aux_lemma => kernel_rfl, by as_aux_lemma => kernel_rfl, by rfl⟩, fun _ _ _ h => h, ?_, hS, ?_⟩
          · intro W9 hW9; (try dsimp only at hW9); go_simp; try with_reducible rfl
          simp only [Act.put, List.setIfInBounds_toArray]
          dsimp only [List.set_cons_zero, List.set_cons_succ]
          refine take_on (i := 28) (v := ?_) (by simp only [List.getElem?_toArray, List.getElem?_cons_succ, List.getElem?_cons_zero]; rfl) ?_
          rotate_left
          refine ⟨⟨by as_aux_lemma => kernel_rfl, by as_aux_lemma => kernel_rfl, by as_aux_lemma => kernel_rfl, by rfl⟩, fun _ _ _ h => h, ?_, hS, ?_⟩
          · intro W9 hW9; (try dsimp only at hW9); go_simp; try with_reducible rfl
          simp only [Act.put, List.setIfInBounds_toArray]
          dsimp only [List.set_cons_zero, List.set_cons_succ]
          refine take_on (i := 29) (v := ?_) (by simp only [List.getElem?_toArray, List.getElem?_cons_succ, List.getElem?_cons_zero]; rfl) ?_
          rotate_left
          refine ⟨⟨by as_aux_lemma => kernel_rfl, by as_aux_lemma => kernel_rfl, by as_aux_lemma => kernel_rfl, by rfl⟩, fun _ _ _ h => h, ?_, hS, ?_⟩
          · intro W9 hW9; (try dsimp only at hW9); go_simp; try with_reducible rfl
          simp only [Act.put, List.setIfInBounds_toArray]
          dsimp only [List.set_cons_zero, List.set_cons_succ]
          refine take_on (i := 30) (v := ?_) (by simp only [List.getElem?_toArray, List.getElem?_cons_succ, List.getElem?_cons_zero]; rfl) ?_
          rotate_left
          refine ⟨⟨by as_aux_lemma => kernel_rfl, by as_aux_lemma => kernel_rfl, by as_aux_lemma => kernel_rfl, by rfl⟩, fun _ _ _ h => h, ?_, hS, ?_⟩
          · intro W9 hW9; (try dsimp only at hW9); go_simp; try with_reducible rfl
          simp only [Act.put, List.setIfInBounds_toArray]
          dsimp only [List.set_cons_zero, List.set_cons_succ]
          refine take_off (i := 31) (by simp only [List.getElem?_toArray, List.getElem?_cons_succ, List.getElem?_cons_zero]; rfl) ?_
          refine ⟨⟨by as_aux_lemma => kernel_rfl, by as_aux_lemma => kernel_rfl, by as_aux_lemma => kernel_rfl, by rfl⟩, fun _ _ _ h => h, hS, ?_⟩
          simp only [Act.put, List.setIfInBounds_toArray]
          dsimp only [List.set_cons_zero, List.set_cons_succ]
          refine take_off (i := 32) (by simp only [List.getElem?_toArray, List.getElem?_cons_succ, List.getElem?_cons_zero]; rfl) ?_
          refine ⟨⟨by as_aux_lemma => kernel_rfl, by as_aux_lemma => kernel_rfl, by as_aux_lemma => kernel_rfl, by rfl⟩, fun _ _ _ h => h, hS, ?_⟩
          simp only [Act.put, List.setIfInBounds_toArray]
          dsimp only [List.set_cons_zero, List.set_cons_succ]
          refine take_off (i := 33) (by simp only [List.getElem?_toArray, List.getElem?_cons_succ, List.getElem?_cons_zero]; rfl) ?_
          refine ⟨⟨by as_aux_lemma => kernel_rfl, by as_aux_lemma => kernel_rfl, by as_aux_lemma => kernel_rfl, by rfl⟩, fun _ _ _ h => h, hS, ?_⟩
          simp only [Act.put, List.setIfInBounds_toArray]
          dsimp only [List.set_cons_zero, List.set_cons_succ]
          refine take_off (i := 34) (by simp only [List.getElem?_toArray, List.getElem?_cons_succ, List.getElem?_cons_zero]; rfl) ?_
          refine ⟨⟨by as_aux_lemma => kernel_rfl, by as_aux_lemma => kernel_rfl, by as_aux_lemma => kernel_rfl, by rfl⟩, fun _ _ _ h => h, hS, ?_⟩
          simp only [Act.put, List.setIfInBounds_toArray]
          dsimp only [List.set_cons_zero, List.set_cons_succ]
          refine take_on (i := 35) (v := ?_) (by simp only [List.getElem?_toArray, List.getElem?_cons_succ, List.getElem?_cons_zero]; rfl) ?_
          rotate_left
          refine ⟨⟨by as_aux_lemma => kernel_rfl, by as_aux_lemma => kernel_rfl, by as_aux_lemma => kernel_rfl, by rfl⟩, fun _ _ _ h => h, ?_, hS, ?_⟩
          · intro W9 hW9; (try dsimp only at hW9); go_simp; try with_reducible rfl
          simp only [Act.put, List.setIfInBounds_toArray]
          dsimp only [List.set_cons_zero, List.set_cons_succ]
          refine take_on (i := 36) (v := ?_) (by simp only [List.getElem?_toArray, List.getElem?_cons_succ, List.getElem?_cons_zero]; rfl) ?_
          rotate_left
          refine ⟨⟨by as_aux_lemma => kernel_rfl, by as_aux_lemma => kernel_rfl, by as_aux_lemma => kernel_rfl, by rfl⟩, fun _ _ _ h => h, ?_, hS, ?_⟩
          · intro W9 hW9; (try dsimp only at hW9); go_simp; try with_reducible rfl
          simp only [Act.put, List.setIfInBounds_toArray]
          dsimp only [List.set_cons_zero, List.set_cons_succ]
          refine take_on (i := 37) (v := ?_) (by simp only [List.getElem?_toArray, List.getElem?_cons_succ, List.getElem?_cons_zero]; rfl) ?_
          rotate_left
          refine ⟨⟨by as_aux_lemma => kernel_rfl, by as_aux_lemma => kernel_rfl, by as_aux_lemma => kernel_rfl, by rfl⟩, fun _ _ _ h => h, ?_, hS, ?_⟩
          · intro W9 hW9; (try dsimp only at hW9); go_simp; try with_reducible rfl
          simp only [Act.put, List.setIfInBounds_toArray]
          dsimp only [List.set_cons_zero, List.set_cons_succ]
          refine take_on (i := 38) (v := ?_) (by simp only [List.getElem?_toArray, List.getElem?_cons_succ, List.getElem?_cons_zero]; rfl) ?_
          rotate_left
          refine ⟨⟨by as_aux_lemma => kernel_rfl, by as_aux_lemma => kernel_rfl, by as_aux_lemma => kernel_rfl, by rfl⟩, fun _ _ _ h => h, ?_, hS, ?_⟩
          · intro W9 hW9; (try dsimp only at hW9); go_simp; try with_reducible rfl
          simp only [Act.put, List.setIfInBounds_toArray]
          dsimp only [List.set_cons_zero, List.set_cons_succ]
          refine take_on (i := 39) (v := ?_) (by simp only [List.getElem?_toArray, List.getElem?_cons_succ, List.getElem?_cons_zero]; rfl) ?_
          rotate_left
          refine ⟨⟨by as_aux_lemma => kernel_rfl, by as_aux_lemma => kernel_rfl, by as_aux_lemma => kernel_rfl, by rfl⟩, fun _ _ _ h => h, ?_, hS, ?_⟩
          · intro W9 hW9; (try dsimp only at hW9); go_simp; try with_reducible rfl
          simp only [Act.put, List.setIfInBounds_toArray]
          dsimp only [List.set_cons_zero, List.set_cons_succ]
          refine take_on (i := 40) (v := ?_) (by simp only [List.getElem?_toArray, List.getElem?_cons_succ, List.getElem?_cons_zero]; rfl) ?_
          rotate_left
          refine ⟨⟨by as_aux_lemma => kernel_rfl, by as_aux_lemma => kernel_rfl, by as_aux_lemma => kernel_rfl, by rfl⟩, fun _ _ _ h => h, ?_, hS, ?_⟩
          · intro W9 hW9; (try dsimp only at hW9); go_simp; try with_reducible rfl
          simp only [Act.put, List.setIfInBounds_toArray]
          dsimp only [List.set_cons_zero, List.set_cons_succ]
          refine take_on (i := 41) (v := ?_) (by simp only [List.getElem?_toArray, List.getElem?_cons_succ, List.getElem?_cons_zero]; rfl) ?_
          rotate_left
          refine ⟨⟨by as_aux_lemma => kernel_rfl, by as_aux_lemma => kernel_rfl, by as_aux_lemma => kernel_rfl, by rfl⟩, fun _ _ _ h => h, ?_, hS, ?_⟩
          · intro W9 hW9; (try dsimp only at hW9); go_simp; try with_reducible rfl
          simp only [Act.put, List.setIfInBounds_toArray]
          dsimp only [List.set_cons_zero, List.set_cons_succ]
          refine take_off (i := 42) (by simp only [List.getElem?_toArray, List.getElem?_cons_succ, List.getElem?_cons_zero]; rfl) ?_
          refine ⟨⟨by as_aux_lemma => kernel_rfl, by as_aux_lemma => kernel_rfl, by as_aux_lemma => kernel_rfl, by rfl⟩, fun _ _ _ h => h, hS, ?_⟩
          simp only [Act.put, List.setIfInBounds_toArray]
          dsimp only [List.set_cons_zero, List.set_cons_succ]
          refine take_off (i := 43) (by simp only [List.getElem?_toArray, List.getElem?_cons_succ, List.getElem?_cons_zero]; rfl) ?_
          refine ⟨⟨by as_aux_lemma => kernel_rfl, by as_aux_lemma => kernel_rfl, by as_aux_lemma => kernel_rfl, by rfl⟩, fun _ _ _ h => h, hS, ?_⟩
          simp only [Act.put, List.setIfInBounds_toArray]
          dsimp only [List.set_cons_zero, List.set_cons_succ]
          refine take_off (i := 44) (by simp only [List.getElem?_toArray, List.getElem?_cons_succ, List.getElem?_cons_zero]; rfl) ?_
          refine ⟨⟨by as_aux_lemma => kernel_rfl, by as_aux_lemma => kernel_rfl, by as_aux_lemma => kernel_rfl, by rfl⟩, fun _ _ _ h => h, hS, ?_⟩
          simp only [Act.put, List.setIfInBounds_toArray]
          dsimp only [List.set_cons_zero, List.set_cons_succ]
          refine take_off (i := 45) (by simp only [List.getElem?_toArray, List.getElem?_cons_succ, List.getElem?_cons_zero]; rfl) ?_
          refine ⟨⟨by as_aux_lemma => kernel_rfl, by as_aux_lemma => kernel_rfl, by as_aux_lemma => kernel_rfl, by rfl⟩, fun _ _ _ h => h, hS, ?_⟩
          simp only [Act.put, List.setIfInBounds_toArray]
          dsimp only [List.set_cons_zero, List.set_cons_succ]
          refine take_off (i := 46) (by simp only [List.getElem?_toArray, List.getElem?_cons_succ, List.getElem?_cons_zero]; rfl) ?_
          refine ⟨⟨by as_aux_lemma => kernel_rfl, by as_aux_lemma => kernel_rfl, by as_aux_lemma => kernel_rfl, by rfl⟩, fun _ _ _ h => h, hS, ?_⟩
          simp only [Act.put, List.setIfInBounds_toArray]
          dsimp only [List.set_cons_zero, List.set_cons_succ]
          refine take_off (i := 47) (by simp only [List.getElem?_toArray, List.getElem?_cons_succ, List.getElem?_cons_zero]; rfl) ?_
          refine ⟨⟨by as_aux_lemma => kernel_rfl, by as_aux_lemma => kernel_rfl, by as_aux_lemma => kernel_rfl, by rfl⟩, fun _ _ _ h => h, hS, ?_⟩
          simp only [Act.put, List.setIfInBounds_toArray]
          dsimp only [List.set_cons_zero, List.set_cons_succ]
          refine take_off (i := 48) (by simp only [List.getElem?_toArray, List.getElem?_cons_succ, List.getElem?_cons_zero]; rfl) ?_
          refine ⟨⟨by as_aux_lemma => kernel_rfl, by as_aux_lemma => kernel_rfl, by as_aux_lemma => kernel_rfl, by rfl⟩, fun _ _ _ h => h, hS, ?_⟩
          simp only [Act.put, List.setIfInBounds_toArray]
          dsimp only [List.set_cons_zero, List.set_cons_succ]
          refine take_off (i := 49) (by simp only [List.getElem?_toArray, List.getElem?_cons_succ, List.getElem?_cons_zero]; rfl) ?_
          refine ⟨⟨by as_aux_lemma => kernel_rfl, by as_aux_lemma => kernel_rfl, by as_aux_lemma => kernel_rfl, by rfl⟩, fun _ _ _ h => h, hS, ?_⟩
          simp only [Act.put, List.setIfInBounds_toArray]
          dsimp only [List.set_cons_zero, List.set_cons_succ]
          refine take_on (i := 50) (v := ?_) (by simp only [List.getElem?_toArray, List.getElem?_cons_succ, List.getElem?_cons_zero]; rfl) ?_
          rotate_left
          refine ⟨⟨by as_aux_lemma => kernel_rfl, by as_aux_lemma => kernel_rfl, by as_aux_lemma => kernel_rfl, by rfl⟩, fun _ _ _ h => h, ?_, hS, ?_⟩
          · intro W9 hW9; (try dsimp only at hW9); go_simp; try with_reducible rfl
          simp only [Act.put, List.setIfInBounds_toArray]
          dsimp only [List.set_cons_zero, List.set_cons_succ]
          refine take_on (i := 51) (v := ?_) (by simp only [List.getElem?_toArray, List.getElem?_cons_succ, List.getElem?_cons_zero]; rfl) ?_
          rotate_left
          refine ⟨⟨by as_aux_lemma => kernel_rfl, by as_aux_lemma => kernel_rfl, by as_aux_lemma => kernel_rfl, by rfl⟩, fun _ _ _ h => h, ?_, hS, ?_⟩
          · intro W9 hW9; (try dsimp only at hW9); go_simp; try with_reducible rfl
          simp only [Act.put, List.setIfInBounds_toArray]
          dsimp only [List.set_cons_zero, List.set_cons_succ]
          refine take_on (i := 52) (v := ?_) (by simp only [List.getElem?_toArray, List.getElem?_cons_succ, List.getElem?_cons_zero]; rfl) ?_
          rotate_left
          refine ⟨⟨by as_aux_lemma => kernel_rfl, by as_aux_lemma => kernel_rfl, by as_aux_lemma => kernel_rfl, by rfl⟩, fun _ _ _ h => h, ?_, hS, ?_⟩
          · intro W9 hW9; (try dsimp only at hW9); go_simp; try with_reducible rfl
          simp only [Act.put, List.setIfInBounds_toArray]
          dsimp only [List.set_cons_zero, List.set_cons_succ]
          refine take_on (i := 53) (v := ?_) (by simp only [List.getElem?_toArray, List.getElem?_cons_succ, List.getElem?_cons_zero]; rfl) ?_
          rotate_left
          refine ⟨⟨by as_aux_lemma => kernel_rfl, by as_aux_lemma => kernel_rfl, by as_aux_lemma => kernel_rfl, by rfl⟩, fun _ _ _ h => h, ?_, hS, ?_⟩
          · intro W9 hW9; (try dsimp only at hW9); go_simp; try with_reducible rfl
          simp only [Act.put, List.setIfInBounds_toArray]
          dsimp only [List.set_cons_zero, List.set_cons_succ]
          refine take_on (i := 54) (v := ?_) (by simp only [List.getElem?_toArray, List.getElem?_cons_succ, List.getElem?_cons_zero]; rfl) ?_
          rotate_left
          refine ⟨⟨by as_aux_lemma => kernel_rfl, by as_aux_lemma => kernel_rfl, by as_aux_lemma => kernel_rfl, by rfl⟩, fun _ _ _ h => h, ?_, hS, ?_⟩
          · intro W9 hW9; (try dsimp only at hW9); go_simp; try with_reducible rfl
          simp only [Act.put, List.setIfInBounds_toArray]
          dsimp only [List.set_cons_zero, List.set_cons_succ]
          refine take_on (i := 55) (v := ?_) (by simp only [List.getElem?_toArray, List.getElem?_cons_succ, List.getElem?_cons_zero]; rfl) ?_
          rotate_left
          refine ⟨⟨by as_aux_lemma => kernel_rfl, by as_aux_lemma => kernel_rfl, by as_aux_lemma => kernel_rfl, by rfl⟩, fun _ _ _ h => h, ?_, hS, ?_⟩
          · intro W9 hW9; (try dsimp only at hW9); go_simp; try with_reducible rfl
          simp only [Act.put, List.setIfInBounds_toArray]
          dsimp only [List.set_cons_zero, List.set_cons_succ]
          refine take_on (i := 56) (v := ?_) (by simp only [List.getElem?_toArray, List.getElem?_cons_succ, List.getElem?_cons_zero]; rfl) ?_
          rotate_left
          refine ⟨⟨by as_aux_lemma => kernel_rfl, by as_aux_lemma => kernel_rfl, by as_aux_lemma => kernel_rfl, by rfl⟩, fun _ _ _ h => h, ?_, hS, ?_⟩
          · intro W9 hW9; (try dsimp only at hW9); go_simp; try with_reducible rfl
          simp only [Act.put, List.setIfInBounds_toArray]
          dsimp only [List.set_cons_zero, List.set_cons_succ]
          refine take_off (i := 57) (by simp only [List.getElem?_toArray, List.getElem?_cons_succ, List.getElem?_cons_zero]; rfl) ?_
          refine ⟨⟨by as_aux_lemma => kernel_rfl, by as_aux_lemma => kernel_rfl, by as_aux_lemma => kernel_rfl, by rfl⟩, fun _ _ _ h => h, hS, ?_⟩
          simp only [Act.put, List.setIfInBounds_toArray]
          dsimp only [List.set_cons_zero, List.set_cons_succ]
          refine take_off (i := 58) (by simp only [List.getElem?_toArray, List.getElem?_cons_succ, List.getElem?_cons_zero]; rfl) ?_
          refine ⟨⟨by as_aux_lemma => kernel_rfl, by as_aux_lemma => kernel_rfl, by as_aux_lemma => kernel_rfl, by rfl⟩, fun _ _ _ h => h, hS, ?_⟩
          simp only [Act.put, List.setIfInBounds_toArray]
          dsimp only [List.set_cons_zero, List.set_cons_succ]
          refine take_off (i := 59) (by simp only [List.getElem?_toArray, List.getElem?_cons_succ, List.getElem?_cons_zero]; rfl) ?_
          refine ⟨⟨by as_aux_lemma => kernel_rfl, by as_aux_lemma => kernel_rfl, by as_aux_lemma => kernel_rfl, by rfl⟩, fun _ _ _ h => h, hS, ?_⟩
          simp only [Act.put, List.setIfInBounds_toArray]
          dsimp only [List.set_cons_zero, List.set_cons_succ]
          refine take_off (i := 60) (by simp only [List.getElem?_toArray, List.getElem?_cons_succ, List.getElem?_cons_zero]; rfl) ?_
          refine ⟨⟨by as_aux_lemma => kernel_rfl, by as_aux_lemma => kernel_rfl, by as_aux_lemma => kernel_rfl, by rfl⟩, fun _ _ _ h => h, hS, ?_⟩
          simp only [Act.put, List.setIfInBounds_toArray]
          dsimp only [List.set_cons_zero, List.set_cons_succ]
          refine take_off (i := 61) (by simp only [List.getElem?_toArray, List.getElem?_cons_succ, List.getElem?_cons_zero]; rfl) ?_
          refine ⟨⟨by as_aux_lemma => kernel_rfl, by as_aux_lemma => kernel_rfl, by as_aux_lemma => kernel_rfl, by rfl⟩, fun _ _ _ h => h, hS, ?_⟩
          simp only [Act.put, List.setIfInBounds_toArray]
          dsimp only [List.set_cons_zero, List.set_cons_succ]
          refine take_off (i := 62) (by simp only [List.getElem?_toArray, List.getElem?_cons_succ, List.getElem?_cons_zero]; rfl) ?_
          refine ⟨⟨by as_aux_lemma => kernel_rfl, by as_aux_lemma => kernel_rfl, by as_aux_lemma => kernel_rfl, by rfl⟩, fun _ _ _ h => h, hS, ?_⟩
          simp only [Act.put, List.setIfInBounds_toArray]
          dsimp only [List.set_cons_zero, List.set_cons_succ]
          refine take_off (i := 63) (by simp only [List.getElem?_toArray, List.getElem?_cons_succ, List.getElem?_cons_zero]; rfl) ?_
          refine ⟨⟨by as_aux_lemma => kernel_rfl, by as_aux_lemma => kernel_rfl, by as_aux_lemma => kernel_rfl, by rfl⟩, fun _ _ _ h => h, hS, ?_⟩
          simp only [Act.put, List.setIfInBounds_toArray]
          dsimp only [List.set_cons_zero, List.set_cons_succ]
          refine take_off (i := 64) (by simp only [List.getElem?_toArray, List.getElem?_cons_succ, List.getElem?_cons_zero]; rfl) ?_
          refine ⟨⟨by as_aux_lemma => kernel_rfl, by as_aux_lemma => kernel_rfl, by as_aux_lemma => kernel_rfl, by rfl⟩, fun _ _ _ h => h, hS, ?_⟩
          simp only [Act.put, List.setIfInBounds_toArray]
          dsimp only [List.set_cons_zero, List.set_cons_succ]
          refine take_off (i := 65) (by simp only [List.getElem?_toArray, List.getElem?_cons_succ, List.getElem?_cons_zero]; rfl) ?_
          refine ⟨⟨by as_aux_lemma => kernel_rfl, by as_aux_lemma => kernel_rfl, by as_aux_lemma => kernel_rfl, by rfl⟩, fun _ _ _ h => h, hS, ?_⟩
          simp only [Act.put, List.setIfInBounds_toArray]
          dsimp only [List.set_cons_zero, List.set_cons_succ]
          refine take_off (i := 66) (by simp only [List.getElem?_toArray, List.getElem?_cons_succ, List.getElem?_cons_zero]; rfl) ?_
          refine ⟨⟨by as_aux_lemma => kernel_rfl, by as_aux_lemma => kernel_rfl, by as_aux_lemma => kernel_rfl, by rfl⟩, fun _ _ _ h => h, hS, ?_⟩
          simp only [Act.put, List.setIfInBounds_toArray]
          dsimp only [List.set_cons_zero, List.set_cons_succ]
          refine take_off (i := 67) (by simp only [List.getElem?_toArray, List.getElem?_cons_succ, List.getElem?_cons_zero]; rfl) ?_
          refine ⟨⟨by as_aux_lemma => kernel_rfl, by as_aux_lemma => kernel_rfl, by as_aux_lemma => kernel_rfl, by rfl⟩, fun _ _ _ h => h, hS, ?_⟩
          simp only [Act.put, List.setIfInBounds_toArray]
          dsimp only [List.set_cons_zero, List.set_cons_succ]
          refine take_off (i := 68) (by simp only [List.getElem?_toArray, List.getElem?_cons_succ, List.getElem?_cons_zero]; rfl) ?_
          refine ⟨⟨by as_aux_lemma => kernel_rfl, by as_aux_lemma => kernel_rfl, by as_aux_lemma => kernel_rfl, by rfl⟩, fun _ _ _ h => h, hS, ?_⟩
          simp only [Act.put, List.setIfInBounds_toArray]
          dsimp only [List.set_cons_zero, List.set_cons_succ]
          refine take_off (i := 69) (by simp only [List.getElem?_toArray, List.getElem?_cons_succ, List.getElem?_cons_zero]; rfl) ?_
          refine ⟨⟨by as_aux_lemma => kernel_rfl, by as_aux_lemma => kernel_rfl, by as_aux_lemma => kernel_rfl, by rfl⟩, fun _ _ _ h => h, hS, ?_⟩
          simp only [Act.put, List.setIfInBounds_toArray]
          dsimp only [List.set_cons_zero, List.set_cons_succ]
          refine take_on (i := 70) (v := ?_) (by simp only [List.getElem?_toArray, List.getElem?_cons_succ, List.getElem?_cons_zero]; rfl) ?_
          rotate_left
          refine ⟨⟨by as_aux_lemma => kernel_rfl, by as_aux_lemma => kernel_rfl, by as_aux_lemma => kernel_rfl, by rfl⟩, fun _ _ _ h => h, ?_, hS, ?_⟩
          · intro W9 hW9; (try dsimp only at hW9); go_simp; try with_reducible rfl
          simp only [Act.put, List.setIfInBounds_toArray]
          dsimp only [List.set_cons_zero, List.set_cons_succ]
          refine take_on (i := 71) (v := ?_) (by simp only [List.getElem?_toArray, List.getElem?_cons_succ, List.getElem?_cons_zero]; rfl) ?_
          rotate_left
          refine ⟨⟨by as_aux_lemma => kernel_rfl, by as_aux_lemma => kernel_rfl, by as_aux_lemma => kernel_rfl, by rfl⟩, fun _ _ _ h => h, ?_, hS, ?_⟩
          · intro W9 hW9; (try dsimp only at hW9); go_simp; try with_reducible rfl
          simp only [Act.put, List.setIfInBounds_toArray]
          dsimp only [List.set_cons_zero, List.set_cons_succ]
          refine take_on (i := 72) (v := ?_) (by simp only [List.getElem?_toArray, List.getElem?_cons_succ, List.getElem?_cons_zero]; rfl) ?_
          rotate_left
          refine ⟨⟨by as_aux_lemma => kernel_rfl, by as_aux_lemma => kernel_rfl, by as_aux_lemma => kernel_rfl, by rfl⟩, fun _ _ _ h => h, ?_, hS, ?_⟩
          · intro W9 hW9; (try dsimp only at hW9); go_simp; try with_reducible rfl
          simp only [Act.put, List.setIfInBounds_toArray]
          dsimp only [List.set_cons_zero, List.set_cons_succ]
          refine take_on (i := 73) (v := ?_) (by simp only [List.getElem?_toArray, List.getElem?_cons_succ, List.getElem?_cons_zero]; rfl) ?_
          rotate_left
          refine ⟨⟨by as_aux_lemma => kernel_rfl, by as_aux_lemma => kernel_rfl, by as_aux_lemma => kernel_rfl, by rfl⟩, fun _ _ _ h => h, ?_, hS, ?_⟩
          · intro W9 hW9; (try dsimp only at hW9); go_simp; try with_reducible rfl
          simp only [Act.put, List.setIfInBounds_toArray]
          dsimp only [List.set_cons_zero, List.set_cons_succ]
          refine take_on (i := 74) (v := ?_) (by simp only [List.getElem?_toArray, List.getElem?_cons_succ, List.getElem?_cons_zero]; rfl) ?_
          rotate_left
          refine ⟨⟨by as_aux_lemma => kernel_rfl, by as_aux_lemma => kernel_rfl, by as_aux_lemma => kernel_rfl, by rfl⟩, fun _ _ _ h => h, ?_, hS, ?_⟩
          · intro W9 hW9; (try dsimp only at hW9); go_simp; try with_reducible rfl
          simp only [Act.put, List.setIfInBounds_toArray]
          dsimp only [List.set_cons_zero, List.set_cons_succ]
          refine take_on (i := 75) (v := ?_) (by simp only [List.getElem?_toArray, List.getElem?_cons_succ, List.getElem?_cons_zero]; rfl) ?_
          rotate_left
          refine ⟨⟨by as_aux_lemma => kernel_rfl, by as_aux_lemma => kernel_rfl, by as_aux_lemma => kernel_rfl, by rfl⟩, fun _ _ _ h => h, ?_, hS, ?_⟩
          · intro W9 hW9; (try dsimp only at hW9); go_simp; try with_reducible rfl
          simp only [Act.put, List.setIfInBounds_toArray]
          dsimp only [List.set_cons_zero, List.set_cons_succ]
          refine take_on (i := 76) (v := ?_) (by simp only [List.getElem?_toArray, List.getElem?_cons_succ, List.getElem?_cons_zero]; rfl) ?_
          rotate_left
          refine ⟨⟨by as_aux_lemma => kernel_rfl, by as_aux_lemma => kernel_rfl, by as_aux_lemma => kernel_rfl, by rfl⟩, fun _ _ _ h => h, ?_, hS, ?_⟩
          · intro W9 hW9; (try dsimp only at hW9); go_simp; try with_reducible rfl
          simp only [Act.put, List.setIfInBounds_toArray]
          dsimp only [List.set_cons_zero, List.set_cons_succ]
          refine take_off (i := 77) (by simp only [List.getElem?_toArray, List.getElem?_cons_succ, List.getElem?_cons_zero]; rfl) ?_
          refine ⟨⟨by as_aux_lemma => kernel_rfl, by as_aux_lemma => kernel_rfl, by as_aux_lemma => kernel_rfl, by rfl⟩, fun _ _ _ h => h, hS, ?_⟩
          simp only [Act.put, List.setIfInBounds_toArray]
          dsimp only [List.set_cons_zero, List.set_cons_succ]
          refine take_off (i := 78) (by simp only [List.getElem?_toArray, List.getElem?_cons_succ, List.getElem?_cons_zero]; rfl) ?_
          refine ⟨⟨by as_aux_lemma => kernel_rfl, by as_aux_lemma => kernel_rfl, by as_aux_lemma => kernel_rfl, by rfl⟩, fun _ _ _ h => h, hS, ?_⟩
          simp only [Act.put, List.setIfInBounds_toArray]
          dsimp only [List.set_cons_zero, List.set_cons_succ]
          refine take_off (i := 79) (by simp only [List.getElem?_toArray, List.getElem?_cons_succ, List.getElem?_cons_zero]; rfl) ?_
          refine ⟨⟨by as_aux_lemma => kernel_rfl, by as_aux_lemma => kernel_rfl, by as_aux_lemma => kernel_rfl, by rfl⟩, fun _ _ _ h => h, hS, ?_⟩
          simp only [Act.put, List.setIfInBounds_toArray]
          dsimp only [List.set_cons_zero, List.set_cons_succ]
          refine take_off (i := 80) (by simp only [List.getElem?_toArray, List.getElem?_cons_succ, List.getElem?_cons_zero]; rfl) ?_
          refine ⟨⟨by as_aux_lemma => kernel_rfl, by as_aux_lemma => kernel_rfl, by as_aux_lemma => kernel_rfl, by rfl⟩, fun _ _ _ h => h, hS, ?_⟩
          simp only [Act.put, List.setIfInBounds_toArray]
          dsimp only [List.set_cons_zero, List.set_cons_succ]
          refine take_off (i := 81) (by simp only [List.getElem?_toArray, List.getElem?_cons_succ, List.getElem?_cons_zero]; rfl) ?_
          refine ⟨⟨by as_aux_lemma => kernel_rfl, by as_aux_lemma => kernel_rfl, by as_aux_lemma => kernel_rfl, by rfl⟩, fun _ _ _ h => h, hS, ?_⟩
          simp only [Act.put, List.setIfInBounds_toArray]
          dsimp only [List.set_cons_zero, List.set_cons_succ]
          refine take_off (i := 82) (by simp only [List.getElem?_toArray, List.getElem?_cons_succ, List.getElem?_cons_zero]; rfl) ?_
          refine ⟨⟨by as_aux_lemma => kernel_rfl, by as_aux_lemma => kernel_rfl, by as_aux_lemma => kernel_rfl, by rfl⟩, fun _ _ _ h => h, hS, ?_⟩
          simp only [Act.put, List.setIfInBounds_toArray]
          dsimp only [List.set_cons_zero, List.set_cons_succ]
          refine take_off (i := 83) (by simp only [List.getElem?_toArray, List.getElem?_cons_succ, List.getElem?_cons_zero]; rfl) ?_
          refine ⟨⟨by as_aux_lemma => kernel_rfl, by as_aux_lemma => kernel_rfl, by as_aux_lemma => kernel_rfl, by rfl⟩, fun _ _ _ h => h, hS, ?_⟩
          simp only [Act.put, List.setIfInBounds_toArray]
          dsimp only [List.set_cons_zero, List.set_cons_succ]
          refine take_off (i := 84) (by simp only [List.getElem?_toArray, List.getElem?_cons_succ, List.getElem?_cons_zero]; rfl) ?_
          refine ⟨⟨by as_aux_lemma => kernel_rfl, by as_aux_lemma => kernel_rfl, by as_aux_lemma => kernel_rfl, by rfl⟩, fun _ _ _ h => h, hS, ?_⟩
          simp only [Act.put, List.setIfInBounds_toArray]
          dsimp only [List.set_cons_zero, List.set_cons_succ]
          refine take_off (i := 85) (by simp only [List.getElem?_toArray, List.getElem?_cons_succ, List.getElem?_cons_zero]; rfl) ?_
          refine ⟨⟨by as_aux_lemma => kernel_rfl, by as_aux_lemma => kernel_rfl, by as_aux_lemma => kernel_rfl, by rfl⟩, fun _ _ _ h => h, hS, ?_⟩
          simp only [Act.put, List.setIfInBounds_toArray]
          dsimp only [List.set_cons_zero, List.set_cons_succ]
          refine take_off (i := 86) (by simp only [List.getElem?_toArray, List.getElem?_cons_succ, List.getElem?_cons_zero]; rfl) ?_
          refine ⟨⟨by as_aux_lemma => kernel_rfl, by as_aux_lemma => kernel_rfl, by as_aux_lemma => kernel_rfl, by rfl⟩, fun _ _ _ h => h, hS, ?_⟩
          simp only [Act.put, List.setIfInBounds_toArray]
          dsimp only [List.set_cons_zero, List.set_cons_succ]
          refine take_off (i := 87) (by simp only [List.getElem?_toArray, List.getElem?_cons_succ, List.getElem?_cons_zero]; rfl) ?_
          refine ⟨⟨by as_aux_lemma => kernel_rfl, by as_aux_lemma => kernel_rfl, by as_aux_lemma => kernel_rfl, by rfl⟩, fun _ _ _ h => h, hS, ?_⟩
          simp only [Act.put, List.setIfInBounds_toArray]
          dsimp only [List.set_cons_zero, List.set_cons_succ]
          refine take_off (i := 88) (by simp only [List.getElem?_toArray, List.getElem?_cons_succ, List.getElem?_cons_zero]; rfl) ?_
          refine ⟨⟨by as_aux_lemma => kernel_rfl, by as_aux_lemma => kernel_rfl, by as_aux_lemma => kernel_rfl, by rfl⟩, fun _ _ _ h => h, hS, ?_⟩
          simp only [Act.put, List.setIfInBounds_toArray]
          dsimp only [List.set_cons_zero, List.set_cons_succ]
          refine take_off (i := 89) (by simp only [List.getElem?_toArray, List.getElem?_cons_succ, List.getElem?_cons_zero]; rfl) ?_
          refine ⟨⟨by as_aux_lemma => kernel_rfl, by as_aux_lemma => kernel_rfl, by as_aux_lemma => kernel_rfl, by rfl⟩, fun _ _ _ h => h, hS, ?_⟩
          simp only [Act.put, List.setIfInBounds_toArray]
          dsimp only [List.set_cons_zero, List.set_cons_succ]
          refine take_on (i := 90) (v := ?_) (by simp only [List.getElem?_toArray, List.getElem?_cons_succ, List.getElem?_cons_zero]; rfl) ?_
          rotate_left
          refine ⟨⟨by as_aux_lemma => kernel_rfl, by as_aux_lemma => kernel_rfl, by as_aux_lemma => kernel_rfl, by rfl⟩, fun _ _ _ h => h, ?_, hS, ?_⟩
          · intro W9 hW9; (try dsimp only at hW9); go_simp; try with_reducible rfl
          simp only [Act.put, List.setIfInBounds_toArray]
          dsimp only [List.set_cons_zero, List.set_cons_succ]
          refine take_on (i := 91) (v := ?_) (by simp only [List.getElem?_toArray, List.getElem?_cons_succ, List.getElem?_cons_zero]; rfl) ?_
          rotate_left
          refine ⟨⟨by as_aux_lemma => kernel_rfl, by as_aux_lemma => kernel_rfl, by as_aux_lemma => kernel_rfl, by rfl⟩, fun _ _ _ h => h, ?_, hS, ?_⟩
          · intro W9 hW9; (try dsimp only at hW9); go_simp; try with_reducible rfl
          simp only [Act.put, List.setIfInBounds_toArray]
          dsimp only [List.set_cons_zero, List.set_cons_succ]
          refine wpAnyH_done (by kernel_rfl) ?_ _
          go_wp2_with fail
          go_roundw
          case rel => exact ⟨k + 1, by omega, by go_num, k0k, k1k, (by (repeat (first | with_reducible assumption | with_reducible exact Below.refl _ _ | (with_reducible refine bel_next ?_ ?_ (by assumption)) | (with_reducible refine Below.alloc ?_ ?_ _) | (with_reducible refine Below.drew ?_) | (with_reducible refine below_drewN ?_ _) | (with_reducible refine Below.setCell ?_ ?_ _))) <;> (first | omega | (simp; done) | (simp; omega))), (by (repeat (first | with_reducible assumption | with_reducible exact Below.refl _ _ | (with_reducible refine bel_next ?_ ?_ (by assumption)) | (with_reducible refine Below.alloc ?_ ?_ _) | (with_reducible refine Below.drew ?_) | (with_reducible refine below_drewN ?_ _) | (with_reducible refine Below.setCell ?_ ?_ _))) <;> (first | omega | (simp; done) | (simp; omega)))⟩
          case measure => first | (simp [intOf]; done) | (simp [intOf]; omega)
      · as_aux_lemma =>
          obtain rfl : v = ga := by rw [HV.out]; simp [gval]
          have e1a := cell_al (o := .cells #[.int .i64 2, .int .i64 v, .int .i64 0] 50) e1
          have k0a := cell_al (o := .cells #[.int .i64 2, .int .i64 v, .int .i64 0] 50) k0
          have k1a := cell_al (o := .cells #[.int .i64 2, .int .i64 v, .int .i64 0] 50) k1
          have nv0 : ¬ (v) < (0 : Int) := by omega
          have nv1 : ¬ (1 : Int) < (v) := by omega
          go_wp2_with fail
          (try simp only [List.append_eq, List.cons_append, List.nil_append])
          refine wp_region_held_drew (S := fun w' => w'.cell? ⟨wr.heap.size, 0, none⟩ = some (.int .i64 2) ∧ w'.cell? ⟨wr.heap.size, 1, none⟩ = some (.int .i64 v) ∧ w'.cell? ⟨wr.heap.size, 2, none⟩ = some (.int .i64 0) ∧ w'.cell? ⟨w1.heap.size, 0, none⟩ = some (.slice (some ⟨g1, 0, none⟩) gs.length c1) ∧ w'.cell? ⟨w1.heap.size, 1, none⟩ = some (.slice (some ⟨g2, 0, none⟩) os.length c2)) (by kernel_rfl) ?_ (fun hS => ?_)
          · first | go_keep | (dsimp only; go_keep)
          refine take_on (i := 0) (v := ?_) (by simp only [List.getElem?_toArray, List.getElem?_cons_succ, List.getElem?_cons_zero]; rfl) ?_
          rotate_left
          refine ⟨⟨by as_aux_lemma => kernel_rfl, by as_aux_lemma => kernel_rfl, by as_aux_lemma => kernel_rfl, by rfl⟩, fun _ _ _ h => h, ?_, hS, ?_⟩
          · intro W9 hW9; (try dsimp only at hW9); go_simp; try with_reducible rfl
          simp only [Act.put, List.setIfInBounds_toArray]
          dsimp only [List.set_cons_zero, List.set_cons_succ]
          refine take_on (i := 1) (v := ?_) (by simp only [List.getElem?_toArray, List.getElem?_cons_succ, List.getElem?_cons_zero]; rfl) ?_
          rotate_left
          refine ⟨⟨by as_aux_lemma => kernel_rfl, by as_aux_lemma => kernel_rfl, by as_aux_lemma => kernel_rfl, by rfl⟩, fun _ _ _ h => h, ?_, hS, ?_⟩
          · intro W9 hW9; (try dsimp only at hW9); go_simp; try with_reducible rfl
          simp only [Act.put, List.setIfInBounds_toArray]
          dsimp only [List.set_cons_zero, List.set_cons_succ]
          refine wpAnyH_ready (rs := [2]) (by kernel_rfl) (by simp) ?_
          refine AllReadyH.cons (by simp only [List.getElem?_toArray, List.getElem?_cons_succ, List.getElem?_cons_zero]; rfl) (fun K hK => ?_) AllReadyH.nil
          go_simp
          go_at_call 46; refine (iGateOk_any 2 _ 0 (k : Int) _).mono ?_; rintro e v3 ⟨rfl, hv3⟩; rw [HGO.out]; have zv := hv3.size; (try simp at zv); have e1k := bel_keeps hv3 e1a; have k0k := bel_keeps hv3 k0a; have k1k := bel_keeps hv3 k1a; have g0k := bel_keeps hv3 (b := wr.heap.size) (o := 0) (v := .int .i64 2) (by first | (go_simp; done) | assumption); have g1k := bel_keeps hv3 (b := wr.heap.size) (o := 1) (v := .int .i64 v) (by first | (go_simp; done) | assumption); have g2k := bel_keeps hv3 (b := wr.heap.size) (o := 2) (v := .int .i64 0) (by first | (go_simp; done) | assumption)
          go_wp2_with fail
          refine hK.out _ _ ?_ (fun hS => ?_)
          · first | go_keep | (dsimp only; go_keep)
          clear hK K
          (try simp only [Act.put, List.setIfInBounds_toArray])
          (try dsimp only [List.set_cons_zero, List.set_cons_succ])
          refine take_on (i := 3) (v := ?_) (by simp only [List.getElem?_toArray, List.getElem?_cons_succ, List.getElem?_cons_zero]; rfl) ?_
          rotate_left
          refine ⟨⟨by as_aux_lemma => kernel_rfl, by as_aux_lemma => kernel_rfl, by as_aux_lemma => kernel_rfl, by rfl⟩, fun _ _ _ h => h, ?_, hS, ?_⟩
          · intro W9 hW9; (try dsimp only at hW9); go_simp; try with_reducible rfl
          simp only [Act.put, List.setIfInBounds_toArray]
          dsimp only [List.set_cons_zero, List.set_cons_succ]
          refine take_on (i := 4) (v := ?_) (by simp only [List.getElem?_toArray, List.getElem?_cons_succ, List.getElem?_cons_zero]; rfl) ?_
          rotate_left
          refine ⟨⟨by as_aux_lemma => kernel_rfl, by as_aux_lemma => kernel_rfl, by as_aux_lemma => kernel_rfl, by rfl⟩, fun _ _ _ h => h, ?_, hS, ?_⟩
          · intro W9 hW9; (try dsimp only at hW9); go_simp; try with_reducible rfl
          simp only [Act.put, List.setIfInBounds_toArray]
          dsimp only [List.set_cons_zero, List.set_cons_succ]
          refine take_on (i := 5) (v := ?_) (by simp only [List.getElem?_toArray, List.getElem?_cons_succ, List.getElem?_cons_zero]; rfl) ?_
          rotate_left
          refine ⟨⟨by as_aux_lemma => kernel_rfl, by as_aux_lemma => kernel_rfl, by as_aux_lemma => kernel_rfl, by rfl⟩, fun _ _ _ h => h, ?_, hS, ?_⟩
          · intro W9 hW9; (try dsimp only at hW9); go_simp; try with_reducible rfl
          simp only [Act.put, List.setIfInBounds_toArray]
          dsimp only [List.set_cons_zero, List.set_cons_succ]
          refine take_on (i := 6) (v := .bool false) (by simp only [List.getElem?_toArray, List.getElem?_cons_succ, List.getElem?_cons_zero]; rfl) ?_
          refine ⟨⟨by as_aux_lemma => kernel_rfl, by as_aux_lemma => kernel_rfl, by as_aux_lemma => kernel_rfl, by rfl⟩, fun _ _ _ h => h, ?_, hS, ?_⟩
          · intro W9 hW9; (try dsimp only at hW9); go_simp <;> (first | done | omega | (simp; done) | (simp; omega))
          simp only [Act.put, List.setIfInBounds_toArray]
          dsimp only [List.set_cons_zero, List.set_cons_succ]
          refine take_on (i := 7) (v := ?_) (by simp only [List.getElem?_toArray, List.getElem?_cons_succ, List.getElem?_cons_zero]; rfl) ?_
          rotate_left
          refine ⟨⟨by as_aux_lemma => kernel_rfl, by as_aux_lemma => kernel_rfl, by as_aux_lemma => kernel_rfl, by rfl⟩, fun _ _ _ h => h, ?_, hS, ?_⟩
          · intro W9 hW9; (try dsimp only at hW9); go_simp; try with_reducible rfl
          simp only [Act.put, List.setIfInBounds_toArray]
          dsimp only [List.set_cons_zero, List.set_cons_succ]
          refine take_on (i := 8) (v := ?_) (by simp only [List.getElem?_toArray, List.getElem?_cons_succ, List.getElem?_cons_zero]; rfl) ?_
          rotate_left
          refine ⟨⟨by as_aux_lemma => kernel_rfl, by as_aux_lemma => kernel_rfl, by as_aux_lemma => kernel_rfl, by rfl⟩, fun _ _ _ h => h, ?_, hS, ?_⟩
          · intro W9 hW9; (try dsimp only at hW9); go_simp; try with_reducible rfl
          simp only [Act.put, List.setIfInBounds_toArray]
          dsimp only [List.set_cons_zero, List.set_cons_succ]
          refine take_on (i := 9) (v := ?_) (by simp only [List.getElem?_toArray, List.getElem?_cons_succ, List.getElem?_cons_zero]; rfl) ?_
          rotate_left
          refine ⟨⟨by as_aux_lemma => kernel_rfl, by as_aux_lemma => kernel_rfl, by as_aux_lemma => kernel_rfl, by rfl⟩, fun _ _ _ h => h, ?_, hS, ?_⟩
          · intro W9 hW9; (try dsimp only at hW9); go_simp; try with_reducible rfl
          simp only [Act.put, List.setIfInBounds_toArray]
          dsimp only [List.set_cons_zero, List.set_cons_succ]
          refine take_on (i := 10) (v := .bool false) (by simp only [List.getElem?_toArray, List.getElem?_cons_succ, List.getElem?_cons_zero]; rfl) ?_
          refine ⟨⟨by as_aux_lemma => kernel_rfl, by as_aux_lemma => kernel_rfl, by as_aux_lemma => kernel_rfl, by rfl⟩, fun _ _ _ h => h, ?_, hS, ?_⟩
          · intro W9 hW9; (try dsimp only at hW9); go_simp <;> (first | done | omega | (simp; done) | (simp; omega))
          simp only [Act.put, List.setIfInBounds_toArray]
          dsimp only [List.set_cons_zero, List.set_cons_succ]
          refine take_on (i := 11) (v := ?_) (by simp only [List.getElem?_toArray, List.getElem?_cons_succ, List.getElem?_cons_zero]; rfl) ?_
          rotate_left
          refine ⟨⟨by as_aux_lemma => kernel_rfl, by as_aux_lemma => kernel_rfl, by as_aux_lemma => kernel_rfl, by rfl⟩, fun _ _ _ h => h, ?_, hS, ?_⟩
          · intro W9 hW9; (try dsimp only at hW9); go_simp; try with_reducible rfl
          simp only [Act.put, List.setIfInBounds_toArray]
          dsimp only [List.set_cons_zero, List.set_cons_succ]
          refine take_on (i := 12) (v := ?_) (by simp only [List.getElem?_toArray, List.getElem?_cons_succ, List.getElem?_cons_zero]; rfl) ?_
          rotate_left
          refine ⟨⟨by as_aux_lemma => kernel_rfl, by as_aux_lemma => kernel_rfl, by as_aux_lemma => kernel_rfl, by rfl⟩, fun _ _ _ h => h, ?_, hS, ?_⟩
          · intro W9 hW9; (try dsimp only at hW9); go_simp; try with_reducible rfl
          simp only [Act.put, List.setIfInBounds_toArray]
          dsimp only [List.set_cons_zero, List.set_cons_succ]
          refine take_on (i := 13) (v := ?_) (by simp only [List.getElem?_toArray, List.getElem?_cons_succ, List.getElem?_cons_zero]; rfl) ?_
          rotate_left
          refine ⟨⟨by as_aux_lemma => kernel_rfl, by as_aux_lemma => kernel_rfl, by as_aux_lemma => kernel_rfl, by rfl⟩, fun _ _ _ h => h, ?_, hS, ?_⟩
          · intro W9 hW9; (try dsimp only at hW9); go_simp; try with_reducible rfl
          simp only [Act.put, List.setIfInBounds_toArray]
          dsimp only [List.set_cons_zero, List.set_cons_succ]
          refine take_on (i := 14) (v := ?_) (by simp only [List.getElem?_toArray, List.getElem?_cons_succ, List.getElem?_cons_zero]; rfl) ?_
          rotate_left
          refine ⟨⟨by as_aux_lemma => kernel_rfl, by as_aux_lemma => kernel_rfl, by as_aux_lemma => kernel_rfl, by rfl⟩, fun _ _ _ h => h, ?_, hS, ?_⟩
          · intro W9 hW9; (try dsimp only at hW9); go_simp; try with_reducible rfl
          simp only [Act.put, List.setIfInBounds_toArray]
          dsimp only [List.set_cons_zero, List.set_cons_succ]
          refine take_on (i := 15) (v := ?_) (by simp only [List.getElem?_toArray, List.getElem?_cons_succ, List.getElem?_cons_zero]; rfl) ?_
          rotate_left
          refine ⟨⟨by as_aux_lemma => kernel_rfl, by as_aux_lemma => kernel_rfl, by as_aux_lemma => kernel_rfl, by rfl⟩, fun _ _ _ h => h, ?_, hS, ?_⟩
          · intro W9 hW9; (try dsimp only at hW9); go_simp; try with_reducible rfl
          simp only [Act.put, List.setIfInBounds_toArray]
          dsimp only [List.set_cons_zero, List.set_cons_succ]
          refine take_on (i := 16) (v := ?_) (by simp only [List.getElem?_toArray, List.getElem?_cons_succ, List.getElem?_cons_zero]; rfl) ?_
          rotate_left
          refine ⟨⟨by as_aux_lemma => kernel_rfl, by as_aux_lemma => kernel_rfl, by as_aux_lemma => kernel_rfl, by rfl⟩, fun _ _ _ h => h, ?_, hS, ?_⟩
          · intro W9 hW9; (try dsimp only at hW9); go_simp; try with_reducible rfl
          simp only [Act.put, List.setIfInBounds_toArray]
          dsimp only [List.set_cons_zero, List.set_cons_succ]
          refine take_off (i := 17) (by simp only [List.getElem?_toArray, List.getElem?_cons_succ, List.getElem?_cons_zero]; rfl) ?_
          refine ⟨⟨by as_aux_lemma => kernel_rfl, by as_aux_lemma => kernel_rfl, by as_aux_lemma => kernel_rfl, by rfl⟩, fun _ _ _ h => h, hS, ?_⟩
          simp only [Act.put, List.setIfInBounds_toArray]
          dsimp only [List.set_cons_zero, List.set_cons_succ]
          refine take_off (i := 18) (by simp only [List.getElem?_toArray, List.getElem?_cons_succ, List.getElem?_cons_zero]; rfl) ?_
          refine ⟨⟨by as_aux_lemma => kernel_rfl, by as_aux_lemma => kernel_rfl, by as_aux_lemma => kernel_rfl, by rfl⟩, fun _ _ _ h => h, hS, ?_⟩
          simp only [Act.put, List.setIfInBounds_toArray]
          dsimp only [List.set_cons_zero, List.set_cons_succ]
          refine take_off (i := 19) (by simp only [List.getElem?_toArray, List.getElem?_cons_succ, List.getElem?_cons_zero]; rfl) ?_
          refine ⟨⟨by as_aux_lemma => kernel_rfl, by as_aux_lemma => kernel_rfl, by as_aux_lemma => kernel_rfl, by rfl⟩, fun _ _ _ h => h, hS, ?_⟩
          simp only [Act.put, List.setIfInBounds_toArray]
          dsimp only [List.set_cons_zero, List.set_cons_succ]
          refine take_off (i := 20) (by simp only [List.getElem?_toArray, List.getElem?_cons_succ, List.getElem?_cons_zero]; rfl) ?_
          refine ⟨⟨by as_aux_lemma => kernel_rfl, by as_aux_lemma => kernel_rfl, by as_aux_lemma => kernel_rfl, by rfl⟩, fun _ _ _ h => h, hS, ?_⟩
          simp only [Act.put, List.setIfInBounds_toArray]
          dsimp only [List.set_cons_zero, List.set_cons_succ]
          refine take_off (i := 21) (by simp only [List.getElem?_toArray, List.getElem?_cons_succ, List.getElem?_cons_zero]; rfl) ?_
          refine ⟨⟨by as_aux_lemma => kernel_rfl, by as_aux_lemma => kernel_rfl, by as_aux_lemma => kernel_rfl, by rfl⟩, fun _ _ _ h => h, hS, ?_⟩
          simp only [Act.put, List.setIfInBounds_toArray]
          dsimp only [List.set_cons_zero, List.set_cons_succ]
          refine take_off (i := 22) (by simp only [List.getElem?_toArray, List.getElem?_cons_succ, List.getElem?_cons_zero]; rfl) ?_
          refine ⟨⟨by as_aux_lemma => kernel_rfl, by as_aux_lemma => kernel_rfl, by as_aux_lemma => kernel_rfl, by rfl⟩, fun _ _ _ h => h, hS, ?_⟩
          simp only [Act.put, List.setIfInBounds_toArray]
          dsimp only [List.set_cons_zero, List.set_cons_succ]
          refine take_off (i := 23) (by simp only [List.getElem?_toArray, List.getElem?_cons_succ, List.getElem?_cons_zero]; rfl) ?_
          refine ⟨⟨by as_aux_lemma => kernel_rfl, by as_aux_lemma => kernel_rfl, by as_aux_lemma => kernel_rfl, by rfl⟩, fun _ _ _ h => h, hS, ?_⟩
          simp only [Act.put, List.setIfInBounds_toArray]
          dsimp only [List.set_cons_zero, List.set_cons_succ]
          refine take_on (i := 24) (v := ?_) (by simp only [List.getElem?_toArray, List.getElem?_cons_succ, List.getElem?_cons_zero]; rfl) ?_
          rotate_left
          refine ⟨⟨by as_aux_lemma => kernel_rfl, by as_aux_lemma => kernel_rfl, by as_aux_lemma => kernel_rfl, by rfl⟩, fun _ _ _ h => h, ?_, hS, ?_⟩
          · intro W9 hW9; (try dsimp only at hW9); go_simp; try with_reducible rfl
          simp only [Act.put, List.setIfInBounds_toArray]
          dsimp only [List.set_cons_zero, List.set_cons_succ]
          refine take_on (i := 25) (v := ?_) (by simp only [List.getElem?_toArray, List.getElem?_cons_succ, List.getElem?_cons_zero]; rfl) ?_
          rotate_left
          refine ⟨⟨by as_aux_lemma => kernel_rfl, by as_aux_lemma => kernel_rfl, by as_aux_lemma => kernel_rfl, by rfl⟩, fun _ _ _ h => h, ?_, hS, ?_⟩
          · intro W9 hW9; (try dsimp only at hW9); go_simp; try with_reducible rfl
          simp only [Act.put, List.setIfInBounds_toArray]
          dsimp only [List.set_cons_zero, List.set_cons_succ]
          refine take_on (i := 26) (v := ?_) (by simp only [List.getElem?_toArray, List.getElem?_cons_succ, List.getElem?_cons_zero]; rfl) ?_
          rotate_left
          refine ⟨⟨by as_aux_lemma => kernel_rfl, by as_aux_lemma => kernel_rfl, by as_aux_lemma => kernel_rfl, by rfl⟩, fun _ _ _ h => h, ?_, hS, ?_⟩
          · intro W9 hW9; (try dsimp only at hW9); go_simp; try with_reducible rfl
          simp only [Act.put, List.setIfInBounds_toArray]
          dsimp only [List.set_cons_zero, List.set_cons_succ]
          refine take_on (i := 27) (v := ?_) (by simp only [List.getElem?_toArray, List.getElem?_cons_succ, List.getElem?_cons_zero]; rfl) ?_
          rotate_left
          refine ⟨⟨by as_aux_lemma => kernel_rfl, by as_aux_lemma => kernel_rfl, by as_aux_lemma => kernel_rfl, by rfl⟩, fun _ _ _ h => h, ?_, hS, ?_⟩
          · intro W9 hW9; (try dsimp only at hW9); go_simp; try with_reducible rfl
          simp only [Act.put, List.setIfInBounds_toArray]
          dsimp only [List.set_cons_zero, List.set_cons_succ]
          refine take_on (i := 28) (v := ?_) (by simp only [List.getElem?_toArray, List.getElem?_cons_succ, List.getElem?_cons_zero]; rfl) ?_
          rotate_left
          refine ⟨⟨by as_aux_lemma => kernel_rfl, by as_aux_lemma => kernel_rfl, by as_aux_lemma => kernel_rfl, by rfl⟩, fun _ _ _ h => h, ?_, hS, ?_⟩
          · intro W9 hW9; (try dsimp only at hW9); go_simp; try with_reducible rfl
          simp only [Act.put, List.setIfInBounds_toArray]
          dsimp only [List.set_cons_zero, List.set_cons_succ]
          refine take_on (i := 29) (v := ?_) (by simp only [List.getElem?_toArray, List.getElem?_cons_succ, List.getElem?_cons_zero]; rfl) ?_
          rotate_left
          refine ⟨⟨by as_aux_lemma => kernel_rfl, by as_aux_lemma => kernel_rfl, by as_aux_lemma => kernel_rfl, by rfl⟩, fun _ _ _ h => h, ?_, hS, ?_⟩
          · intro W9 hW9; (try dsimp only at hW9); go_simp; try with_reducible rfl
          simp only [Act.put, List.setIfInBounds_toArray]
          dsimp only [List.set_cons_zero, List.set_cons_succ]
          refine take_on (i := 30) (v := ?_) (by simp only [List.getElem?_toArray, List.getElem?_cons_succ, List.getElem?_cons_zero]; rfl) ?_
          rotate_left
          refine ⟨⟨by as_aux_lemma => kernel_rfl, by as_aux_lemma => kernel_rfl, by as_aux_lemma => kernel_rfl, by rfl⟩, fun _ _ _ h => h, ?_, hS, ?_⟩
          · intro W9 hW9; (try dsimp only at hW9); go_simp; try with_reducible rfl
          simp only [Act.put, List.setIfInBounds_toArray]
          dsimp only [List.set_cons_zero, List.set_cons_succ]
          refine take_on (i := 31) (v := ?_) (by simp only [List.getElem?_toArray, List.getElem?_cons_succ, List.getElem?_cons_zero]; rfl) ?_
          rotate_left
          refine ⟨⟨by as_aux_lemma => kernel_rfl, by as_aux_lemma => kernel_rfl, by as_aux_lemma => kernel_rfl, by rfl⟩, fun _ _ _ h => h, ?_, hS, ?_⟩
          · intro W9 hW9; (try dsimp only at hW9); go_simp; try with_reducible rfl
          simp only [Act.put, List.setIfInBounds_toArray]
          dsimp only [List.set_cons_zero, List.set_cons_succ]
          refine take_on (i := 32) (v := ?_) (by simp only [List.getElem?_toArray, List.getElem?_cons_succ, List.getElem?_cons_zero]; rfl) ?_
          rotate_left
          refine ⟨⟨by as_aux_lemma => kernel_rfl, by as_aux_lemma => kernel_rfl, by as_aux_lemma => kernel_rfl, by rfl⟩, fun _ _ _ h => h, ?_, hS, ?_⟩
          · intro W9 hW9; (try dsimp only at hW9); go_simp; try with_reducible rfl
          simp only [Act.put, List.setIfInBounds_toArray]
          dsimp only [List.set_cons_zero, List.set_cons_succ]
          refine take_on (i := 33) (v := ?_) (by simp only [List.getElem?_toArray, List.getElem?_cons_succ, List.getElem?_cons_zero]; rfl) ?_
          rotate_left
          refine ⟨⟨by as_aux_lemma => kernel_rfl, by as_aux_lemma => kernel_rfl, by as_aux_lemma => kernel_rfl, by rfl⟩, fun _ _ _ h => h, ?_, hS, ?_⟩
          · intro W9 hW9; (try dsimp only at hW9); go_simp; try with_reducible rfl
          simp only [Act.put, List.setIfInBounds_toArray]
          dsimp only [List.set_cons_zero, List.set_cons_succ]
          refine take_on (i := 34) (v := .bool false) (by simp only [List.getElem?_toArray, List.getElem?_cons_succ, List.getElem?_cons_zero]; rfl) ?_
          refine ⟨⟨by as_aux_lemma => kernel_rfl, by as_aux_lemma => kernel_rfl, by as_aux_lemma => kernel_rfl, by rfl⟩, fun _ _ _ h => h, ?_, hS, ?_⟩
          · intro W9 hW9; (try dsimp only at hW9); go_simp <;> (first | done | omega | (simp; done) | (simp; omega))
          simp only [Act.put, List.setIfInBounds_toArray]
          dsimp only [List.set_cons_zero, List.set_cons_succ]
          refine take_on (i := 35) (v := ?_) (by simp only [List.getElem?_toArray, List.getElem?_cons_succ, List.getElem?_cons_zero]; rfl) ?_
          rotate_left
          refine ⟨⟨by as_aux_lemma => kernel_rfl, by as_aux_lemma => kernel_rfl, by as_aux_lemma => kernel_rfl, by rfl⟩, fun _ _ _ h => h, ?_, hS, ?_⟩
          · intro W9 hW9; (try dsimp only at hW9); go_simp; try with_reducible rfl
          simp only [Act.put, List.setIfInBounds_toArray]
          dsimp only [List.set_cons_zero, List.set_cons_succ]
          refine take_on (i := 36) (v := ?_) (by simp only [List.getElem?_toArray, List.getElem?_cons_succ, List.getElem?_cons_zero]; rfl) ?_
          rotate_left
          refine ⟨⟨by as_aux_lemma => kernel_rfl, by as_aux_lemma => kernel_rfl, by as_aux_lemma => kernel_rfl, by rfl⟩, fun _ _ _ h => h, ?_, hS, ?_⟩
          · intro W9 hW9; (try dsimp only at hW9); go_simp; try with_reducible rfl
          simp only [Act.put, List.setIfInBounds_toArray]
          dsimp only [List.set_cons_zero, List.set_cons_succ]
          refine take_on (i := 37) (v := ?_) (by simp only [List.getElem?_toArray, List.getElem?_cons_succ, List.getElem?_cons_zero]; rfl) ?_
          rotate_left
          refine ⟨⟨by as_aux_lemma => kernel_rfl, by as_aux_lemma => kernel_rfl, by as_aux_lemma => kernel_rfl, by rfl⟩, fun _ _ _ h => h, ?_, hS, ?_⟩
          · intro W9 hW9; (try dsimp only at hW9); go_simp; try with_reducible rfl
          simp only [Act.put, List.setIfInBounds_toArray]
          dsimp only [List.set_cons_zero, List.set_cons_succ]
          refine take_on (i := 38) (v := ?_) (by simp only [List.getElem?_toArray, List.getElem?_cons_succ, List.getElem?_cons_zero]; rfl) ?_
          rotate_left
          refine ⟨⟨by as_aux_lemma => kernel_rfl, by as_aux_lemma => kernel_rfl, by as_aux_lemma => kernel_rfl, by rfl⟩, fun _ _ _ h => h, ?_, hS, ?_⟩
          · intro W9 hW9; (try dsimp only at hW9); go_simp; try with_reducible rfl
          simp only [Act.put, List.setIfInBounds_toArray]
          dsimp only [List.set_cons_zero, List.set_cons_succ]
          refine take_on (i := 39) (v := ?_) (by simp only [List.getElem?_toArray, List.getElem?_cons_succ, List.getElem?_cons_zero]; rfl) ?_
          rotate_left
          refine ⟨⟨by as_aux_lemma => kernel_rfl, by as_aux_lemma => kernel_rfl, by as_aux_lemma => kernel_rfl, by rfl⟩, fun _ _ _ h => h, ?_, hS, ?_⟩
          · intro W9 hW9; (try dsimp only at hW9); go_simp; try with_reducible rfl
          simp only [Act.put, List.setIfInBounds_toArray]
          dsimp only [List.set_cons_zero, List.set_cons_succ]
          refine take_on (i := 40) (v := ?_) (by simp only [List.getElem?_toArray, List.getElem?_cons_succ, List.getElem?_cons_zero]; rfl) ?_
          rotate_left
          refine ⟨⟨by as_aux_lemma => kernel_rfl, by as_aux_lemma => kernel_rfl, by as_aux_lemma => kernel_rfl, by rfl⟩, fun _ _ _ h => h, ?_, hS, ?_⟩
          · intro W9 hW9; (try dsimp only at hW9); go_simp; try with_reducible rfl
          simp only [Act.put, List.setIfInBounds_toArray]
          dsimp only [List.set_cons_zero, List.set_cons_succ]
          refine take_on (i := 41) (v := ?_) (by simp only [List.getElem?_toArray, List.getElem?_cons_succ, List.getElem?_cons_zero]; rfl) ?_
          rotate_left
          refine ⟨⟨by as_aux_lemma => kernel_rfl, by as_aux_lemma => kernel_rfl, by as_aux_lemma => kernel_rfl, by rfl⟩, fun _ _ _ h => h, ?_, hS, ?_⟩
          · intro W9 hW9; (try dsimp only at hW9); go_simp; try with_reducible rfl
          simp only [Act.put, List.setIfInBounds_toArray]
          dsimp only [List.set_cons_zero, List.set_cons_succ]
          refine take_off (i := 42) (by simp only [List.getElem?_toArray, List.getElem?_cons_succ, List.getElem?_cons_zero]; rfl) ?_
          refine ⟨⟨by as_aux_lemma => kernel_rfl, by as_aux_lemma => kernel_rfl, by as_aux_lemma => kernel_rfl, by rfl⟩, fun _ _ _ h => h, hS, ?_⟩
          simp only [Act.put, List.setIfInBounds_toArray]
          dsimp only [List.set_cons_zero, List.set_cons_succ]
          refine take_off (i := 43) (by simp only [List.getElem?_toArray, List.getElem?_cons_succ, List.getElem?_cons_zero]; rfl) ?_
          refine ⟨⟨by as_aux_lemma => kernel_rfl, by as_aux_lemma => kernel_rfl, by as_aux_lemma => kernel_rfl, by rfl⟩, fun _ _ _ h => h, hS, ?_⟩
          simp only [Act.put, List.setIfInBounds_toArray]
          dsimp only [List.set_cons_zero, List.set_cons_succ]
          refine take_off (i := 44) (by simp only [List.getElem?_toArray, List.getElem?_cons_succ, List.getElem?_cons_zero]; rfl) ?_
          refine ⟨⟨by as_aux_lemma => kernel_rfl, by as_aux_lemma => kernel_rfl, by as_aux_lemma => kernel_rfl, by rfl⟩, fun _ _ _ h => h, hS, ?_⟩
          simp only [Act.put, List.setIfInBounds_toArray]
          dsimp only [List.set_cons_zero, List.set_cons_succ]
          refine take_off (i := 45) (by simp only [List.getElem?_toArray, List.getElem?_cons_succ, List.getElem?_cons_zero]; rfl) ?_
          refine ⟨⟨by as_aux_lemma => kernel_rfl, by as_aux_lemma => kernel_rfl, by as_aux_lemma => kernel_rfl, by rfl⟩, fun _ _ _ h => h, hS, ?_⟩
          simp only [Act.put, List.setIfInBounds_toArray]
          dsimp only [List.set_cons_zero, List.set_cons_succ]
          refine take_off (i := 46) (by simp only [List.getElem?_toArray, List.getElem?_cons_succ, List.getElem?_cons_zero]; rfl) ?_
          refine ⟨⟨by as_aux_lemma => kernel_rfl, by as_aux_lemma => kernel_rfl, by as_aux_lemma => kernel_rfl, by rfl⟩, fun _ _ _ h => h, hS, ?_⟩
          simp only [Act.put, List.setIfInBounds_toArray]
          dsimp only [List.set_cons_zero, List.set_cons_succ]
          refine take_off (i := 47) (by simp only [List.getElem?_toArray, List.getElem?_cons_succ, List.getElem?_cons_zero]; rfl) ?_
          refine ⟨⟨by as_aux_lemma => kernel_rfl, by as_aux_lemma => kernel_rfl, by as_aux_lemma => kernel_rfl, by rfl⟩, fun _ _ _ h => h, hS, ?_⟩
          simp only [Act.put, List.setIfInBounds_toArray]
          dsimp only [List.set_cons_zero, List.set_cons_succ]
          refine take_off (i := 48) (by simp only [List.getElem?_toArray, List.getElem?_cons_succ, List.getElem?_cons_zero]; rfl) ?_
          refine ⟨⟨by as_aux_lemma => kernel_rfl, by as_aux_lemma => kernel_rfl, by as_aux_lemma => kernel_rfl, by rfl⟩, fun _ _ _ h => h, hS, ?_⟩
          simp only [Act.put, List.setIfInBounds_toArray]
          dsimp only [List.set_cons_zero, List.set_cons_succ]
          refine take_off (i := 49) (by simp only [List.getElem?_toArray, List.getElem?_cons_succ, List.getElem?_cons_zero]; rfl) ?_
          refine ⟨⟨by as_aux_lemma => kernel_rfl, by as_aux_lemma => kernel_rfl, by as_aux_lemma => kernel_rfl, by rfl⟩, fun _ _ _ h => h, hS, ?_⟩
          simp only [Act.put, List.setIfInBounds_toArray]
          dsimp only [List.set_cons_zero, List.set_cons_succ]
          refine take_on (i := 50) (v := ?_) (by simp only [List.getElem?_toArray, List.getElem?_cons_succ, List.getElem?_cons_zero]; rfl) ?_
          rotate_left
          refine ⟨⟨by as_aux_lemma => kernel_rfl, by as_aux_lemma => kernel_rfl, by as_aux_lemma => kernel_rfl, by rfl⟩, fun _ _ _ h => h, ?_, hS, ?_⟩
          · intro W9 hW9; (try dsimp only at hW9); go_simp; try with_reducible rfl
          simp only [Act.put, List.setIfInBounds_toArray]
          dsimp only [List.set_cons_zero, List.set_cons_succ]
          refine take_on (i := 51) (v := ?_) (by simp only [List.getElem?_toArray, List.getElem?_cons_succ, List.getElem?_cons_zero]; rfl) ?_
          rotate_left
          refine ⟨⟨by as_aux_lemma => kernel_rfl, by as_aux_lemma => kernel_rfl, by as_aux_lemma => kernel_rfl, by rfl⟩, fun _ _ _ h => h, ?_, hS, ?_⟩
          · intro W9 hW9; (try dsimp only at hW9); go_simp; try with_reducible rfl
          simp only [Act.put, List.setIfInBounds_toArray]
          dsimp only [List.set_cons_zero, List.set_cons_succ]
          refine take_on (i := 52) (v := ?_) (by simp only [List.getElem?_toArray, List.getElem?_cons_succ, List.getElem?_cons_zero]; rfl) ?_
          rotate_left
          refine ⟨⟨by as_aux_lemma => kernel_rfl, by as_aux_lemma => kernel_rfl, by as_aux_lemma => kernel_rfl, by rfl⟩, fun _ _ _ h => h, ?_, hS, ?_⟩
          · intro W9 hW9; (try dsimp only at hW9); go_simp; try with_reducible rfl
          simp only [Act.put, List.setIfInBounds_toArray]
          dsimp only [List.set_cons_zero, List.set_cons_succ]
          refine take_on (i := 53) (v := ?_) (by simp only [List.getElem?_toArray, List.getElem?_cons_succ, List.getElem?_cons_zero]; rfl) ?_
          rotate_left
          refine ⟨⟨by as_aux_lemma => kernel_rfl, by as_aux_lemma => kernel_rfl, by as_aux_lemma => kernel_rfl, by rfl⟩, fun _ _ _ h => h, ?_, hS, ?_⟩
          · intro W9 hW9; (try dsimp only at hW9); go_simp; try with_reducible rfl
          simp only [Act.put, List.setIfInBounds_toArray]
          dsimp only [List.set_cons_zero, List.set_cons_succ]
          refine take_on (i := 54) (v := ?_) (by simp only [List.getElem?_toArray, List.getElem?_cons_succ, List.getElem?_cons_zero]; rfl) ?_
          rotate_left
          refine ⟨⟨by as_aux_lemma => kernel_rfl, by as_aux_lemma => kernel_rfl, by as_aux_lemma => kernel_rfl, by rfl⟩, fun _ _ _ h => h, ?_, hS, ?_⟩
          · intro W9 hW9; (try dsimp only at hW9); go_simp; try with_reducible rfl
          simp only [Act.put, List.setIfInBounds_toArray]
          dsimp only [List.set_cons_zero, List.set_cons_succ]
          refine take_on (i := 55) (v := ?_) (by simp only [List.getElem?_toArray, List.getElem?_cons_succ, List.getElem?_cons_zero]; rfl) ?_
          rotate_left
          refine ⟨⟨by as_aux_lemma => kernel_rfl, by as_aux_lemma => kernel_rfl, by as_aux_lemma => kernel_rfl, by rfl⟩, fun _ _ _ h => h, ?_, hS, ?_⟩
          · intro W9 hW9; (try dsimp only at hW9); go_simp; try with_reducible rfl
          simp only [Act.put, List.setIfInBounds_toArray]
          dsimp only [List.set_cons_zero, List.set_cons_succ]
          refine take_on (i := 56) (v := ?_) (by simp only [List.getElem?_toArray, List.getElem?_cons_succ, List.getElem?_cons_zero]; rfl) ?_
          rotate_left
          refine ⟨⟨by as_aux_lemma => kernel_rfl, by as_aux_lemma => kernel_rfl, by as_aux_lemma => kernel_rfl, by rfl⟩, fun _ _ _ h => h, ?_, hS, ?_⟩
          · intro W9 hW9; (try dsimp only at hW9); go_simp; try with_reducible rfl
          simp only [Act.put, List.setIfInBounds_toArray]
          dsimp only [List.set_cons_zero, List.set_cons_succ]
          refine take_off (i := 57) (by simp only [List.getElem?_toArray, List.getElem?_cons_succ, List.getElem?_cons_zero]; rfl) ?_
          refine ⟨⟨by as_aux_lemma => kernel_rfl, by as_aux_lemma => kernel_rfl, by as_aux_lemma => kernel_rfl, by rfl⟩, fun _ _ _ h => h, hS, ?_⟩
          simp only [Act.put, List.setIfInBounds_toArray]
          dsimp only [List.set_cons_zero, List.set_cons_succ]
          refine take_off (i := 58) (by simp only [List.getElem?_toArray, List.getElem?_cons_succ, List.getElem?_cons_zero]; rfl) ?_
          refine ⟨⟨by as_aux_lemma => kernel_rfl, by as_aux_lemma => kernel_rfl, by as_aux_lemma => kernel_rfl, by rfl⟩, fun _ _ _ h => h, hS, ?_⟩
          simp only [Act.put, List.setIfInBounds_toArray]
          dsimp only [List.set_cons_zero, List.set_cons_succ]
          refine take_off (i := 59) (by simp only [List.getElem?_toArray, List.getElem?_cons_succ, List.getElem?_cons_zero]; rfl) ?_
          refine ⟨⟨by as_aux_lemma => kernel_rfl, by as_aux_lemma => kernel_rfl, by as_aux_lemma => kernel_rfl, by rfl⟩, fun _ _ _ h => h, hS, ?_⟩
          simp only [Act.put, List.setIfInBounds_toArray]
          dsimp only [List.set_cons_zero, List.set_cons_succ]
          refine take_off (i := 60) (by simp only [List.getElem?_toArray, List.getElem?_cons_succ, List.getElem?_cons_zero]; rfl) ?_
          refine ⟨⟨by as_aux_lemma => kernel_rfl, by as_aux_lemma => kernel_rfl, by as_aux_lemma => kernel_rfl, by rfl⟩, fun _ _ _ h => h, hS, ?_⟩
          simp only [Act.put, List.setIfInBounds_toArray]
          dsimp only [List.set_cons_zero, List.set_cons_succ]
          refine take_off (i := 61) (by simp only [List.getElem?_toArray, List.getElem?_cons_succ, List.getElem?_cons_zero]; rfl) ?_
          refine ⟨⟨by as_aux_lemma => kernel_rfl, by as_aux_lemma => kernel_rfl, by as_aux_lemma => kernel_rfl, by rfl⟩, fun _ _ _ h => h, hS, ?_⟩
          simp only [Act.put, List.setIfInBounds_toArray]
          dsimp only [List.set_cons_zero, List.set_cons_succ]
          refine take_off (i := 62) (by simp only [List.getElem?_toArray, List.getElem?_cons_succ, List.getElem?_cons_zero]; rfl) ?_
          refine ⟨⟨by as_aux_lemma => kernel_rfl, by as_aux_lemma => kernel_rfl, by as_aux_lemma => kernel_rfl, by rfl⟩, fun _ _ _ h => h, hS, ?_⟩
          simp only [Act.put, List.setIfInBounds_toArray]
          dsimp only [List.set_cons_zero, List.set_cons_succ]
          refine take_off (i := 63) (by simp only [List.getElem?_toArray, List.getElem?_cons_succ, List.getElem?_cons_zero]; rfl) ?_
          refine ⟨⟨by as_aux_lemma => kernel_rfl, by as_aux_lemma => kernel_rfl, by as_aux_lemma => kernel_rfl, by rfl⟩, fun _ _ _ h => h, hS, ?_⟩
          simp only [Act.put, List.setIfInBounds_toArray]
          dsimp only [List.set_cons_zero, List.set_cons_succ]
          refine take_off (i := 64) (by simp only [List.getElem?_toArray, List.getElem?_cons_succ, List.getElem?_cons_zero]; rfl) ?_
          refine ⟨⟨by as_aux_lemma => kernel_rfl, by as_aux_lemma => kernel_rfl, by as_aux_lemma => kernel_rfl, by rfl⟩, fun _ _ _ h => h, hS, ?_⟩
          simp only [Act.put, List.setIfInBounds_toArray]
          dsimp only [List.set_cons_zero, List.set_cons_succ]
          refine take_off (i := 65) (by simp only [List.getElem?_toArray, List.getElem?_cons_succ, List.getElem?_cons_zero]; rfl) ?_
          refine ⟨⟨by as_aux_lemma => kernel_rfl, by as_aux_lemma => kernel_rfl, by as_aux_lemma => kernel_rfl, by rfl⟩, fun _ _ _ h => h, hS, ?_⟩
          simp only [Act.put, List.setIfInBounds_toArray]
          dsimp only [List.set_cons_zero, List.set_cons_succ]
          refine take_off (i := 66) (by simp only [List.getElem?_toArray, List.getElem?_cons_succ, List.getElem?_cons_zero]; rfl) ?_
          refine ⟨⟨by as_aux_lemma => kernel_rfl, by as_aux_lemma => kernel_rfl, by as_aux_lemma => kernel_rfl, by rfl⟩, fun _ _ _ h => h, hS, ?_⟩
          simp only [Act.put, List.setIfInBounds_toArray]
          dsimp only [List.set_cons_zero, List.set_cons_succ]
          refine take_off (i := 67) (by simp only [List.getElem?_toArray, List.getElem?_cons_succ, List.getElem?_cons_zero]; rfl) ?_
          refine ⟨⟨by as_aux_lemma => kernel_rfl, by as_aux_lemma => kernel_rfl, by as_aux_lemma => kernel_rfl, by rfl⟩, fun _ _ _ h => h, hS, ?_⟩
          simp only [Act.put, List.setIfInBounds_toArray]
          dsimp only [List.set_cons_zero, List.set_cons_succ]
          refine take_off (i := 68) (by simp only [List.getElem?_toArray, List.getElem?_cons_succ, List.getElem?_cons_zero]; rfl) ?_
          refine ⟨⟨by as_aux_lemma => kernel_rfl, by as_aux_lemma => kernel_rfl, by as_aux_lemma => kernel_rfl, by rfl⟩, fun _ _ _ h => h, hS, ?_⟩
          simp only [Act.put, List.setIfInBounds_toArray]
          dsimp only [List.set_cons_zero, List.set_cons_succ]
          refine take_off (i := 69) (by simp only [List.getElem?_toArray, List.getElem?_cons_succ, List.getElem?_cons_zero]; rfl) ?_
          refine ⟨⟨by as_aux_lemma => kernel_rfl, by as_aux_lemma => kernel_rfl, by as_aux_lemma => kernel_rfl, by rfl⟩, fun _ _ _ h => h, hS, ?_⟩
          simp only [Act.put, List.setIfInBounds_toArray]
          dsimp only [List.set_cons_zero, List.set_cons_succ]
          refine take_on (i := 70) (v := ?_) (by simp only [List.getElem?_toArray, List.getElem?_cons_succ, List.getElem?_cons_zero]; rfl) ?_
          rotate_left
          refine ⟨⟨by as_aux_lemma => kernel_rfl, by as_aux_lemma => kernel_rfl, by as_aux_lemma => kernel_rfl, by rfl⟩, fun _ _ _ h => h, ?_, hS, ?_⟩
          · intro W9 hW9; (try dsimp only at hW9); go_simp; try with_reducible rfl
          simp only [Act.put, List.setIfInBounds_toArray]
          dsimp only [List.set_cons_zero, List.set_cons_succ]
          refine take_on (i := 71) (v := ?_) (by simp only [List.getElem?_toArray, List.getElem?_cons_succ, List.getElem?_cons_zero]; rfl) ?_
          rotate_left
          refine ⟨⟨by as_aux_lemma => kernel_rfl, by as_aux_lemma => kernel_rfl, by as_aux_lemma => kernel_rfl, by rfl⟩, fun _ _ _ h => h, ?_, hS, ?_⟩
          · intro W9 hW9; (try dsimp only at hW9); go_simp; try with_reducible rfl
          simp only [Act.put, List.setIfInBounds_toArray]
          dsimp only [List.set_cons_zero, List.set_cons_succ]
          refine take_on (i := 72) (v := ?_) (by simp only [List.getElem?_toArray, List.getElem?_cons_succ, List.getElem?_cons_zero]; rfl) ?_
          rotate_left
          refine ⟨⟨by as_aux_lemma => kernel_rfl, by as_aux_lemma => kernel_rfl, by as_aux_lemma => kernel_rfl, by rfl⟩, fun _ _ _ h => h, ?_, hS, ?_⟩
          · intro W9 hW9; (try dsimp only at hW9); go_simp; try with_reducible rfl
          simp only [Act.put, List.setIfInBounds_toArray]
          dsimp only [List.set_cons_zero, List.set_cons_succ]
          refine take_on (i := 73) (v := ?_) (by simp only [List.getElem?_toArray, List.getElem?_cons_succ, List.getElem?_cons_zero]; rfl) ?_
          rotate_left
          refine ⟨⟨by as_aux_lemma => kernel_rfl, by as_aux_lemma => kernel_rfl, by as_aux_lemma => kernel_rfl, by rfl⟩, fun _ _ _ h => h, ?_, hS, ?_⟩
          · intro W9 hW9; (try dsimp only at hW9); go_simp; try with_reducible rfl
          simp only [Act.put, List.setIfInBounds_toArray]
          dsimp only [List.set_cons_zero, List.set_cons_succ]
          refine take_on (i := 74) (v := ?_) (by simp only [List.getElem?_toArray, List.getElem?_cons_succ, List.getElem?_cons_zero]; rfl) ?_
          rotate_left
          refine ⟨⟨by as_aux_lemma => kernel_rfl, by as_aux_lemma => kernel_rfl, by as_aux_lemma => kernel_rfl, by rfl⟩, fun _ _ _ h => h, ?_, hS, ?_⟩
          · intro W9 hW9; (try dsimp only at hW9); go_simp; try with_reducible rfl
          simp only [Act.put, List.setIfInBounds_toArray]
          dsimp only [List.set_cons_zero, List.set_cons_succ]
          refine take_on (i := 75) (v := ?_) (by simp only [List.getElem?_toArray, List.getElem?_cons_succ, List.getElem?_cons_zero]; rfl) ?_
          rotate_left
          refine ⟨⟨by as_aux_lemma => kernel_rfl, by as_aux_lemma => kernel_rfl, by as_aux_lemma => kernel_rfl, by rfl⟩, fun _ _ _ h => h, ?_, hS, ?_⟩
          · intro W9 hW9; (try dsimp only at hW9); go_simp; try with_reducible rfl
          simp only [Act.put, List.setIfInBounds_toArray]
          dsimp only [List.set_cons_zero, List.set_cons_succ]
          refine take_on (i := 76) (v := ?_) (by simp only [List.getElem?_toArray, List.getElem?_cons_succ, List.getElem?_cons_zero]; rfl) ?_
          rotate_left
          refine ⟨⟨by as_aux_lemma => kernel_rfl, by as_aux_lemma => kernel_rfl, by as_aux_lemma => kernel_rfl, by rfl⟩, fun _ _ _ h => h, ?_, hS, ?_⟩
          · intro W9 hW9; (try dsimp only at hW9); go_simp; try with_reducible rfl
          simp only [Act.put, List.setIfInBounds_toArray]
          dsimp only [List.set_cons_zero, List.set_cons_succ]
          refine take_off (i := 77) (by simp only [List.getElem?_toArray, List.getElem?_cons_succ, List.getElem?_cons_zero]; rfl) ?_
          refine ⟨⟨by as_aux_lemma => kernel_rfl, by as_aux_lemma => kernel_rfl, by as_aux_lemma => kernel_rfl, by rfl⟩, fun _ _ _ h => h, hS, ?_⟩
          simp only [Act.put, List.setIfInBounds_toArray]
          dsimp only [List.set_cons_zero, List.set_cons_succ]
          refine take_off (i := 78) (by simp only [List.getElem?_toArray, List.getElem?_cons_succ, List.getElem?_cons_zero]; rfl) ?_
          refine ⟨⟨by as_aux_lemma => kernel_rfl, by as_aux_lemma => kernel_rfl, by as_aux_lemma => kernel_rfl, by rfl⟩, fun _ _ _ h => h, hS, ?_⟩
          simp only [Act.put, List.setIfInBounds_toArray]
          dsimp only [List.set_cons_zero, List.set_cons_succ]
          refine take_off (i := 79) (by simp only [List.getElem?_toArray, List.getElem?_cons_succ, List.getElem?_cons_zero]; rfl) ?_
          refine ⟨⟨by as_aux_lemma => kernel_rfl, by as_aux_lemma => kernel_rfl, by as_aux_lemma => kernel_rfl, by rfl⟩, fun _ _ _ h => h, hS, ?_⟩
          simp only [Act.put, List.setIfInBounds_toArray]
          dsimp only [List.set_cons_zero, List.set_cons_succ]
          refine take_off (i := 80) (by simp only [List.getElem?_toArray, List.getElem?_cons_succ, List.getElem?_cons_zero]; rfl) ?_
          refine ⟨⟨by as_aux_lemma => kernel_rfl, by as_aux_lemma => kernel_rfl, by as_aux_lemma => kernel_rfl, by rfl⟩, fun _ _ _ h => h, hS, ?_⟩
          simp only [Act.put, List.setIfInBounds_toArray]
          dsimp only [List.set_cons_zero, List.set_cons_succ]
          refine take_off (i := 81) (by simp only [List.getElem?_toArray, List.getElem?_cons_succ, List.getElem?_cons_zero]; rfl) ?_
          refine ⟨⟨by as_aux_lemma => kernel_rfl, by as_aux_lemma => kernel_rfl, by as_aux_lemma => kernel_rfl, by rfl⟩, fun _ _ _ h => h, hS, ?_⟩
          simp only [Act.put, List.setIfInBounds_toArray]
          dsimp only [List.set_cons_zero, List.set_cons_succ]
          refine take_off (i := 82) (by simp only [List.getElem?_toArray, List.getElem?_cons_succ, List.getElem?_cons_zero]; rfl) ?_
          refine ⟨⟨by as_aux_lemma => kernel_rfl, by as_aux_lemma => kernel_rfl, by as_aux_lemma => kernel_rfl, by rfl⟩, fun _ _ _ h => h, hS, ?_⟩
          simp only [Act.put, List.setIfInBounds_toArray]
          dsimp only [List.set_cons_zero, List.set_cons_succ]
          refine take_off (i := 83) (by simp only [List.getElem?_toArray, List.getElem?_cons_succ, List.getElem?_cons_zero]; rfl) ?_
          refine ⟨⟨by as_aux_lemma => kernel_rfl, by as_aux_lemma => kernel_rfl, by as_aux_lemma => kernel_rfl, by rfl⟩, fun _ _ _ h => h, hS, ?_⟩
          simp only [Act.put, List.setIfInBounds_toArray]
          dsimp only [List.set_cons_zero, List.set_cons_succ]
          refine take_off (i := 84) (by simp only [List.getElem?_toArray, List.getElem?_cons_succ, List.getElem?_cons_zero]; rfl) ?_
          refine ⟨⟨by as_aux_lemma => kernel_rfl, by as_aux_lemma => kernel_rfl, by as_aux_lemma => kernel_rfl, by rfl⟩, fun _ _ _ h => h, hS, ?_⟩
          simp only [Act.put, List.setIfInBounds_toArray]
          dsimp only [List.set_cons_zero, List.set_cons_succ]
          refine take_off (i := 85) (by simp only [List.getElem?_toArray, List.getElem?_cons_succ, List.getElem?_cons_zero]; rfl) ?_
          refine ⟨⟨by as_aux_lemma => kernel_rfl, by as_aux_lemma => kernel_rfl, by as_aux_lemma => kernel_rfl, by rfl⟩, fun _ _ _ h => h, hS, ?_⟩
          simp only [Act.put, List.setIfInBounds_toArray]
          dsimp only [List.set_cons_zero, List.set_cons_succ]
          refine take_off (i := 86) (by simp only [List.getElem?_toArray, List.getElem?_cons_succ, List.getElem?_cons_zero]; rfl) ?_
          refine ⟨⟨by as_aux_lemma => kernel_rfl, by as_aux_lemma => kernel_rfl, by as_aux_lemma => kernel_rfl, by rfl⟩, fun _ _ _ h => h, hS, ?_⟩
          simp only [Act.put, List.setIfInBounds_toArray]
          dsimp only [List.set_cons_zero, List.set_cons_succ]
          refine take_off (i := 87) (by simp only [List.getElem?_toArray, List.getElem?_cons_succ, List.getElem?_cons_zero]; rfl) ?_
          refine ⟨⟨by as_aux_lemma => kernel_rfl, by as_aux_lemma => kernel_rfl, by as_aux_lemma => kernel_rfl, by rfl⟩, fun _ _ _ h => h, hS, ?_⟩
          simp only [Act.put, List.setIfInBounds_toArray]
          dsimp only [List.set_cons_zero, List.set_cons_succ]
          refine take_off (i := 88) (by simp only [List.getElem?_toArray, List.getElem?_cons_succ, List.getElem?_cons_zero]; rfl) ?_
          refine ⟨⟨by as_aux_lemma => kernel_rfl, by as_aux_lemma => kernel_rfl, by as_aux_lemma => kernel_rfl, by rfl⟩, fun _ _ _ h => h, hS, ?_⟩
          simp only [Act.put, List.setIfInBounds_toArray]
          dsimp only [List.set_cons_zero, List.set_cons_succ]
          refine take_off (i := 89) (by simp only [List.getElem?_toArray, List.getElem?_cons_succ, List.getElem?_cons_zero]; rfl) ?_
          refine ⟨⟨by as_aux_lemma => kernel_rfl, by as_aux_lemma => kernel_rfl, by as_aux_lemma => kernel_rfl, by rfl⟩, fun _ _ _ h => h, hS, ?_⟩
          simp only [Act.put, List.setIfInBounds_toArray]
          dsimp only [List.set_cons_zero, List.set_cons_succ]
          refine take_on (i := 90) (v := ?_) (by simp only [List.getElem?_toArray, List.getElem?_cons_succ, List.getElem?_cons_zero]; rfl) ?_
          rotate_left
          refine ⟨⟨by as_aux_lemma => kernel_rfl, by as_aux_lemma => kernel_rfl, by as_aux_lemma => kernel_rfl, by rfl⟩, fun _ _ _ h => h, ?_, hS, ?_⟩
          · intro W9 hW9; (try dsimp only at hW9); go_simp; try with_reducible rfl
          simp only [Act.put, List.setIfInBounds_toArray]
          dsimp only [List.set_cons_zero, List.set_cons_succ]
          refine take_on (i := 91) (v := ?_) (by simp only [List.getElem?_toArray, List.getElem?_cons_succ, List.getElem?_cons_zero]; rfl) ?_
          rotate_left
          refine ⟨⟨by as_aux_lemma => kernel_rfl, by as_aux_lemma => kernel_rfl, by as_aux_lemma => kernel_rfl, by rfl⟩, fun _ _ _ h => h, ?_, hS, ?_⟩
          · intro W9 hW9; (try dsimp only at hW9); go_simp; try with_reducible rfl
          simp only [Act.put, List.setIfInBounds_toArray]
          dsimp only [List.set_cons_zero, List.set_cons_succ]
          refine wpAnyH_done (by kernel_rfl) ?_ _
          go_wp2_with fail
          go_roundw
          case rel => exact ⟨k + 1, by omega, by go_num, k0k, k1k, (by (repeat (first | with_reducible assumption | with_reducible exact Below.refl _ _ | (with_reducible refine bel_next ?_ ?_ (by assumption)) | (with_reducible refine Below.alloc ?_ ?_ _) | (with_reducible refine Below.drew ?_) | (with_reducible refine below_drewN ?_ _) | (with_reducible refine Below.setCell ?_ ?_ _))) <;> (first | omega | (simp; done) | (simp; omega))), (by (repeat (first | with_reducible assumption | with_reducible exact Below.refl _ _ | (with_reducible refine bel_next ?_ ?_ (by assumption)) | (with_reducible refine Below.alloc ?_ ?_ _) | (with_reducible refine Below.drew ?_) | (with_reducible refine below_drewN ?_ _) | (with_reducible refine Below.setCell ?_ ?_ _))) <;> (first | omega | (simp; done) | (simp; omega)))⟩
          case measure => first | (simp [intOf]; done) | (simp [intOf]; omega)
      · as_aux_lemma =>
          obtain ⟨n1, rfl⟩ := Int.eq_ofNat_of_zero_le q1
          have c1x := (HQW.out.below hbg).elemC n1 (by rw [HEL.out]; omega)
          have n1b : (n1 : Int) < (gs.length : Int) := by omega
          have p1 := HPRE.out (n1 : Int) (by omega) (by omega)
          have b1 := at0_b (i := (n1 : Int)) HEB.out (by omega) (by omega)
          obtain ⟨x, hx⟩ : ∃ x, x = at0 EW (n1 : Int) := ⟨_, rfl⟩
          rw [← hx] at c1x p1 b1
          obtain ⟨b1a, b1b⟩ := b1
          obtain ⟨n2, rfl⟩ := Int.eq_ofNat_of_zero_le q3
          have c2x := (HQW.out.below hbg).elemC n2 (by rw [HEL.out]; omega)
          have n2b : (n2 : Int) < (gs.length : Int) := by omega
          have p2 := HPRE.out (n2 : Int) (by omega) (by omega)
          obtain ⟨y, hy⟩ : ∃ x, x = at0 EW (n2 : Int) := ⟨_, rfl⟩
          rw [← hy] at c2x p2
          obtain rfl : v = bits .xor .i64 x y := by rw [HV.out]; simp [gval, xorI, p1, p2]
          clear p1 p2 hx hy
          have e1a := cell_al (o := .cells #[.int .i64 3, .int .i64 (n1 : Int), .int .i64 (n2 : Int)] 50) e1
          have c1xa := cell_al (o := .cells #[.int .i64 3, .int .i64 (n1 : Int), .int .i64 (n2 : Int)] 50) c1x
          have c2xa := cell_al (o := .cells #[.int .i64 3, .int .i64 (n1 : Int), .int .i64 (n2 : Int)] 50) c2x
          have k0a := cell_al (o := .cells #[.int .i64 3, .int .i64 (n1 : Int), .int .i64 (n2 : Int)] 50) k0
          have k1a := cell_al (o := .cells #[.int .i64 3, .int .i64 (n1 : Int), .int .i64 (n2 : Int)] 50) k1
          have nv0 : ¬ (bits .xor .i64 x y) < (0 : Int) := by omega
          have nv1 : ¬ (1 : Int) < (bits .xor .i64 x y) := by omega
          go_wp2_with fail
          (try simp only [List.append_eq, List.cons_append, List.nil_append])
          refine wp_region_held_drew (S := fun w' => w'.cell? ⟨wr.heap.size, 0, none⟩ = some (.int .i64 3) ∧ w'.cell? ⟨wr.heap.size, 1, none⟩ = some (.int .i64 (n1 : Int)) ∧ w'.cell? ⟨wr.heap.size, 2, none⟩ = some (.int .i64 (n2 : Int)) ∧ w'.cell? ⟨bw, fw + n1, none⟩ = some (.int .i64 (x)) ∧ w'.cell? ⟨bw, fw + n2, none⟩ = some (.int .i64 (y)) ∧ w'.cell? ⟨w1.heap.size, 0, none⟩ = some (.slice (some ⟨g1, 0, none⟩) gs.length c1) ∧ w'.cell? ⟨w1.heap.size, 1, none⟩ = some (.slice (some ⟨g2, 0, none⟩) os.length c2)) (by kernel_rfl) ?_ (fun hS => ?_)
          · first | go_keep | (dsimp only; go_keep)
          refine take_on (i := 0) (v := ?_) (by simp only [List.getElem?_toArray, List.getElem?_cons_succ, List.getElem?_cons_zero]; rfl) ?_
          rotate_left
          refine ⟨⟨by as_aux_lemma => kernel_rfl, by as_aux_lemma => kernel_rfl, by as_aux_lemma => kernel_rfl, by rfl⟩, fun _ _ _ h => h, ?_, hS, ?_⟩
          · intro W9 hW9; (try dsimp only at hW9); go_simp; try with_reducible rfl
          simp only [Act.put, List.setIfInBounds_toArray]
          dsimp only [List.set_cons_zero, List.set_cons_succ]
          refine take_on (i := 1) (v := ?_) (by simp only [List.getElem?_toArray, List.getElem?_cons_succ, List.getElem?_cons_zero]; rfl) ?_
          rotate_left
          refine ⟨⟨by as_aux_lemma => kernel_rfl, by as_aux_lemma => kernel_rfl, by as_aux_lemma => kernel_rfl, by rfl⟩, fun _ _ _ h => h, ?_, hS, ?_⟩
          · intro W9 hW9; (try dsimp only at hW9); go_simp; try with_reducible rfl
          simp only [Act.put, List.setIfInBounds_toArray]
          dsimp only [List.set_cons_zero, List.set_cons_succ]
          refine wpAnyH_ready (rs := [2]) (by kernel_rfl) (by simp) ?_
          refine AllReadyH.cons (by simp only [List.getElem?_toArray, List.getElem?_cons_succ, List.getElem?_cons_zero]; rfl) (fun K hK => ?_) AllReadyH.nil
          go_simp
          go_at_call 46; refine (iGateOk_any 3 (n1 : Int) (n2 : Int) (k : Int) _).mono ?_; rintro e v3 ⟨rfl, hv3⟩; rw [HGO.out]; have zv := hv3.size; (try simp at zv); have e1k := bel_keeps hv3 e1a; have c1xk := bel_keeps hv3 c1xa; have c2xk := bel_keeps hv3 c2xa; have k0k := bel_keeps hv3 k0a; have k1k := bel_keeps hv3 k1a; have g0k := bel_keeps hv3 (b := wr.heap.size) (o := 0) (v := .int .i64 3) (by first | (go_simp; done) | assumption); have g1k := bel_keeps hv3 (b := wr.heap.size) (o := 1) (v := .int .i64 (n1 : Int)) (by first | (go_simp; done) | assumption); have g2k := bel_keeps hv3 (b := wr.heap.size) (o := 2) (v := .int .i64 (n2 : Int)) (by first | (go_simp; done) | assumption)
          go_wp2_with fail
          refine hK.out _ _ ?_ (fun hS => ?_)
          · first | go_keep | (dsimp only; go_keep)
          clear hK K
          (try simp only [Act.put, List.setIfInBounds_toArray])
          (try dsimp only [List.set_cons_zero, List.set_cons_succ])
          refine take_on (i := 3) (v := ?_) (by simp only [List.getElem?_toArray, List.getElem?_cons_succ, List.getElem?_cons_zero]; rfl) ?_
          rotate_left
          refine ⟨⟨by as_aux_lemma => kernel_rfl, by as_aux_lemma => kernel_rfl, by as_aux_lemma => kernel_rfl, by rfl⟩, fun _ _ _ h => h, ?_, hS, ?_⟩
          · intro W9 hW9; (try dsimp only at hW9); go_simp; try with_reducible rfl
          simp only [Act.put, List.setIfInBounds_toArray]
          dsimp only [List.set_cons_zero, List.set_cons_succ]
          refine take_on (i := 4) (v := ?_) (by simp only [List.getElem?_toArray, List.getElem?_cons_succ, List.getElem?_cons_zero]; rfl) ?_
          rotate_left
          refine ⟨⟨by as_aux_lemma => kernel_rfl, by as_aux_lemma => kernel_rfl, by as_aux_lemma => kernel_rfl, by rfl⟩, fun _ _ _ h => h, ?_, hS, ?_⟩
          · intro W9 hW9; (try dsimp only at hW9); go_simp; try with_reducible rfl
          simp only [Act.put, List.setIfInBounds_toArray]
          dsimp only [List.set_cons_zero, List.set_cons_succ]
          refine take_on (i := 5) (v := ?_) (by simp only [List.getElem?_toArray, List.getElem?_cons_succ, List.getElem?_cons_zero]; rfl) ?_
          rotate_left
          refine ⟨⟨by as_aux_lemma => kernel_rfl, by as_aux_lemma => kernel_rfl, by as_aux_lemma => kernel_rfl, by rfl⟩, fun _ _ _ h => h, ?_, hS, ?_⟩
          · intro W9 hW9; (try dsimp only at hW9); go_simp; try with_reducible rfl
          simp only [Act.put, List.setIfInBounds_toArray]
          dsimp only [List.set_cons_zero, List.set_cons_succ]
          refine take_on (i := 6) (v := .bool false) (by simp only [List.getElem?_toArray, List.getElem?_cons_succ, List.getElem?_cons_zero]; rfl) ?_
          refine ⟨⟨by as_aux_lemma => kernel_rfl, by as_aux_lemma => kernel_rfl, by as_aux_lemma => kernel_rfl, by rfl⟩, fun _ _ _ h => h, ?_, hS, ?_⟩
          · intro W9 hW9; (try dsimp only at hW9); go_simp <;> (first | done | omega | (simp; done) | (simp; omega))
          simp only [Act.put, List.setIfInBounds_toArray]
          dsimp only [List.set_cons_zero, List.set_cons_succ]
          refine take_on (i := 7) (v := ?_) (by simp only [List.getElem?_toArray, List.getElem?_cons_succ, List.getElem?_cons_zero]; rfl) ?_
          rotate_left
          refine ⟨⟨by as_aux_lemma => kernel_rfl, by as_aux_lemma => kernel_rfl, by as_aux_lemma => kernel_rfl, by rfl⟩, fun _ _ _ h => h, ?_, hS, ?_⟩
          · intro W9 hW9; (try dsimp only at hW9); go_simp; try with_reducible rfl
          simp only [Act.put, List.setIfInBounds_toArray]
          dsimp only [List.set_cons_zero, List.set_cons_succ]
          refine take_on (i := 8) (v := ?_) (by simp only [List.getElem?_toArray, List.getElem?_cons_succ, List.getElem?_cons_zero]; rfl) ?_
          rotate_left
          refine ⟨⟨by as_aux_lemma => kernel_rfl, by as_aux_lemma => kernel_rfl, by as_aux_lemma => kernel_rfl, by rfl⟩, fun _ _ _ h => h, ?_, hS, ?_⟩
          · intro W9 hW9; (try dsimp only at hW9); go_simp; try with_reducible rfl
          simp only [Act.put, List.setIfInBounds_toArray]
          dsimp only [List.set_cons_zero, List.set_cons_succ]
          refine take_on (i := 9) (v := ?_) (by simp only [List.getElem?_toArray, List.getElem?_cons_succ, List.getElem?_cons_zero]; rfl) ?_
          rotate_left
          refine ⟨⟨by as_aux_lemma => kernel_rfl, by as_aux_lemma => kernel_rfl, by as_aux_lemma => kernel_rfl, by rfl⟩, fun _ _ _ h => h, ?_, hS, ?_⟩
          · intro W9 hW9; (try dsimp only at hW9); go_simp; try with_reducible rfl
          simp only [Act.put, List.setIfInBounds_toArray]
          dsimp only [List.set_cons_zero, List.set_cons_succ]
          refine take_on (i := 10) (v := .bool false) (by simp only [List.getElem?_toArray, List.getElem?_cons_succ, List.getElem?_cons_zero]; rfl) ?_
          refine ⟨⟨by as_aux_lemma => kernel_rfl, by as_aux_lemma => kernel_rfl, by as_aux_lemma => kernel_rfl, by rfl⟩, fun _ _ _ h => h, ?_, hS, ?_⟩
          · intro W9 hW9; (try dsimp only at hW9); go_simp <;> (first | done | omega | (simp; done) | (simp; omega))
          simp only [Act.put, List.setIfInBounds_toArray]
          dsimp only [List.set_cons_zero, List.set_cons_succ]
          refine take_on (i := 11) (v := ?_) (by simp only [List.getElem?_toArray, List.getElem?_cons_succ, List.getElem?_cons_zero]; rfl) ?_
          rotate_left
          refine ⟨⟨by as_aux_lemma => kernel_rfl, by as_aux_lemma => kernel_rfl, by as_aux_lemma => kernel_rfl, by rfl⟩, fun _ _ _ h => h, ?_, hS, ?_⟩
          · intro W9 hW9; (try dsimp only at hW9); go_simp; try with_reducible rfl
          simp only [Act.put, List.setIfInBounds_toArray]
          dsimp only [List.set_cons_zero, List.set_cons_succ]
          refine take_on (i := 12) (v := ?_) (by simp only [List.getElem?_toArray, List.getElem?_cons_succ, List.getElem?_cons_zero]; rfl) ?_
          rotate_left
          refine ⟨⟨by as_aux_lemma => kernel_rfl, by as_aux_lemma => kernel_rfl, by as_aux_lemma => kernel_rfl, by rfl⟩, fun _ _ _ h => h, ?_, hS, ?_⟩
          · intro W9 hW9; (try dsimp only at hW9); go_simp; try with_reducible rfl
          simp only [Act.put, List.setIfInBounds_toArray]
          dsimp only [List.set_cons_zero, List.set_cons_succ]
          refine take_on (i := 13) (v := ?_) (by simp only [List.getElem?_toArray, List.getElem?_cons_succ, List.getElem?_cons_zero]; rfl) ?_
          rotate_left
          refine ⟨⟨by as_aux_lemma => kernel_rfl, by as_aux_lemma => kernel_rfl, by as_aux_lemma => kernel_rfl, by rfl⟩, fun _ _ _ h => h, ?_, hS, ?_⟩
          · intro W9 hW9; (try dsimp only at hW9); go_simp; try with_reducible rfl
          simp only [Act.put, List.setIfInBounds_toArray]
          dsimp only [List.set_cons_zero, List.set_cons_succ]
          refine take_on (i := 14) (v := ?_) (by simp only [List.getElem?_toArray, List.getElem?_cons_succ, List.getElem?_cons_zero]; rfl) ?_
          rotate_left
          refine ⟨⟨by as_aux_lemma => kernel_rfl, by as_aux_lemma => kernel_rfl, by as_aux_lemma => kernel_rfl, by rfl⟩, fun _ _ _ h => h, ?_, hS, ?_⟩
          · intro W9 hW9; (try dsimp only at hW9); go_simp; try with_reducible rfl
          simp only [Act.put, List.setIfInBounds_toArray]
          dsimp only [List.set_cons_zero, List.set_cons_succ]
          refine take_on (i := 15) (v := ?_) (by simp only [List.getElem?_toArray, List.getElem?_cons_succ, List.getElem?_cons_zero]; rfl) ?_
          rotate_left
          refine ⟨⟨by as_aux_lemma => kernel_rfl, by as_aux_lemma => kernel_rfl, by as_aux_lemma => kernel_rfl, by rfl⟩, fun _ _ _ h => h, ?_, hS, ?_⟩
          · intro W9 hW9; (try dsimp only at hW9); go_simp; try with_reducible rfl
          simp only [Act.put, List.setIfInBounds_toArray]
          dsimp only [List.set_cons_zero, List.set_cons_succ]
          refine take_on (i := 16) (v := ?_) (by simp only [List.getElem?_toArray, List.getElem?_cons_succ, List.getElem?_cons_zero]; rfl) ?_
          rotate_left
          refine ⟨⟨by as_aux_lemma => kernel_rfl, by as_aux_lemma => kernel_rfl, by as_aux_lemma => kernel_rfl, by rfl⟩, fun _ _ _ h => h, ?_, hS, ?_⟩
          · intro W9 hW9; (try dsimp only at hW9); go_simp; try with_reducible rfl
          simp only [Act.put, List.setIfInBounds_toArray]
          dsimp only [List.set_cons_zero, List.set_cons_succ]
          refine take_off (i := 17) (by simp only [List.getElem?_toArray, List.getElem?_cons_succ, List.getElem?_cons_zero]; rfl) ?_
          refine ⟨⟨by as_aux_lemma => kernel_rfl, by as_aux_lemma => kernel_rfl, by as_aux_lemma => kernel_rfl, by rfl⟩, fun _ _ _ h => h, hS, ?_⟩
          simp only [Act.put, List.setIfInBounds_toArray]
          dsimp only [List.set_cons_zero, List.set_cons_succ]
          refine take_off (i := 18) (by simp only [List.getElem?_toArray, List.getElem?_cons_succ, List.getElem?_cons_zero]; rfl) ?_
          refine ⟨⟨by as_aux_lemma => kernel_rfl, by as_aux_lemma => kernel_rfl, by as_aux_lemma => kernel_rfl, by rfl⟩, fun _ _ _ h => h, hS, ?_⟩
          simp only [Act.put, List.setIfInBounds_toArray]
          dsimp only [List.set_cons_zero, List.set_cons_succ]
          refine take_off (i := 19) (by simp only [List.getElem?_toArray, List.getElem?_cons_succ, List.getElem?_cons_zero]; rfl) ?_
          refine ⟨⟨by as_aux_lemma => kernel_rfl, by as_aux_lemma => kernel_rfl, by as_aux_lemma => kernel_rfl, by rfl⟩, fun _ _ _ h => h, hS, ?_⟩
          simp only [Act.put, List.setIfInBounds_toArray]
          dsimp only [List.set_cons_zero, List.set_cons_succ]
          refine take_off (i := 20) (by simp only [List.getElem?_toArray, List.getElem?_cons_succ, List.getElem?_cons_zero]; rfl) ?_
          refine ⟨⟨by as_aux_lemma => kernel_rfl, by as_aux_lemma => kernel_rfl, by as_aux_lemma => kernel_rfl, by rfl⟩, fun _ _ _ h => h, hS, ?_⟩
          simp only [Act.put, List.setIfInBounds_toArray]
          dsimp only [List.set_cons_zero, List.set_cons_succ]
          refine take_off (i := 21) (by simp only [List.getElem?_toArray, List.getElem?_cons_succ, List.getElem?_cons_zero]; rfl) ?_
          refine ⟨⟨by as_aux_lemma => kernel_rfl, by as_aux_lemma => kernel_rfl, by as_aux_lemma => kernel_rfl, by rfl⟩, fun _ _ _ h => h, hS, ?_⟩
          simp only [Act.put, List.setIfInBounds_toArray]
          dsimp only [List.set_cons_zero, List.set_cons_succ]
          refine take_off (i := 22) (by simp only [List.getElem?_toArray, List.getElem?_cons_succ, List.getElem?_cons_zero]; rfl) ?_
          refine ⟨⟨by as_aux_lemma => kernel_rfl, by as_aux_lemma => kernel_rfl, by as_aux_lemma => kernel_rfl, by rfl⟩, fun _ _ _ h => h, hS, ?_⟩
          simp only [Act.put, List.setIfInBounds_toArray]
          dsimp only [List.set_cons_zero, List.set_cons_succ]
          refine take_off (i := 23) (by simp only [List.getElem?_toArray, List.getElem?_cons_succ, List.getElem?_cons_zero]; rfl) ?_
          refine ⟨⟨by as_aux_lemma => kernel_rfl, by as_aux_lemma => kernel_rfl, by as_aux_lemma => kernel_rfl, by rfl⟩, fun _ _ _ h => h, hS, ?_⟩
          simp only [Act.put, List.setIfInBounds_toArray]
          dsimp only [List.set_cons_zero, List.set_cons_succ]
          refine take_on (i := 24) (v := ?_) (by simp only [List.getElem?_toArray, List.getElem?_cons_succ, List.getElem?_cons_zero]; rfl) ?_
          rotate_left
          refine ⟨⟨by as_aux_lemma => kernel_rfl, by as_aux_lemma => kernel_rfl, by as_aux_lemma => kernel_rfl, by rfl⟩, fun _ _ _ h => h, ?_, hS, ?_⟩
          · intro W9 hW9; (try dsimp only at hW9); go_simp; try with_reducible rfl
          simp only [Act.put, List.setIfInBounds_toArray]
          dsimp only [List.set_cons_zero, List.set_cons_succ]
          refine take_on (i := 25) (v := ?_) (by simp only [List.getElem?_toArray, List.getElem?_cons_succ, List.getElem?_cons_zero]; rfl) ?_
          rotate_left
          refine ⟨⟨by as_aux_lemma => kernel_rfl, by as_aux_lemma => kernel_rfl, by as_aux_lemma => kernel_rfl, by rfl⟩, fun _ _ _ h => h, ?_, hS, ?_⟩
          · intro W9 hW9; (try dsimp only at hW9); go_simp; try with_reducible rfl
          simp only [Act.put, List.setIfInBounds_toArray]
          dsimp only [List.set_cons_zero, List.set_cons_succ]
          refine take_on (i := 26) (v := ?_) (by simp only [List.getElem?_toArray, List.getElem?_cons_succ, List.getElem?_cons_zero]; rfl) ?_
          rotate_left
          refine ⟨⟨by as_aux_lemma => kernel_rfl, by as_aux_lemma => kernel_rfl, by as_aux_lemma => kernel_rfl, by rfl⟩, fun _ _ _ h => h, ?_, hS, ?_⟩
          · intro W9 hW9; (try dsimp only at hW9); go_simp; try with_reducible rfl
          simp only [Act.put, List.setIfInBounds_toArray]
          dsimp only [List.set_cons_zero, List.set_cons_succ]
          refine take_on (i := 27) (v := ?_) (by simp only [List.getElem?_toArray, List.getElem?_cons_succ, List.getElem?_cons_zero]; rfl) ?_
          rotate_left
          refine ⟨⟨by as_aux_lemma => kernel_rfl, by as_aux_lemma => kernel_rfl, by as_aux_lemma => kernel_rfl, by rfl⟩, fun _ _ _ h => h, ?_, hS, ?_⟩
          · intro W9 hW9; (try dsimp only at hW9); go_simp; try with_reducible rfl
          simp only [Act.put, List.setIfInBounds_toArray]
          dsimp only [List.set_cons_zero, List.set_cons_succ]
          refine take_on (i := 28) (v := ?_) (by simp only [List.getElem?_toArray, List.getElem?_cons_succ, List.getElem?_cons_zero]; rfl) ?_
          rotate_left
          refine ⟨⟨by as_aux_lemma => kernel_rfl, by as_aux_lemma => kernel_rfl, by as_aux_lemma => kernel_rfl, by rfl⟩, fun _ _ _ h => h, ?_, hS, ?_⟩
          · intro W9 hW9; (try dsimp only at hW9); go_simp; try with_reducible rfl
          simp only [Act.put, List.setIfInBounds_toArray]
          dsimp only [List.set_cons_zero, List.set_cons_succ]
          refine take_on (i := 29) (v := ?_) (by simp only [List.getElem?_toArray, List.getElem?_cons_succ, List.getElem?_cons_zero]; rfl) ?_
          rotate_left
          refine ⟨⟨by as_aux_lemma => kernel_rfl, by as_aux_lemma => kernel_rfl, by as_aux_lemma => kernel_rfl, by rfl⟩, fun _ _ _ h => h, ?_, hS, ?_⟩
          · intro W9 hW9; (try dsimp only at hW9); go_simp; try with_reducible rfl
          simp only [Act.put, List.setIfInBounds_toArray]
          dsimp only [List.set_cons_zero, List.set_cons_succ]
          refine take_on (i := 30) (v := ?_) (by simp only [List.getElem?_toArray, List.getElem?_cons_succ, List.getElem?_cons_zero]; rfl) ?_
          rotate_left
          refine ⟨⟨by as_aux_lemma => kernel_rfl, by as_aux_lemma => kernel_rfl, by as_aux_lemma => kernel_rfl, by rfl⟩, fun _ _ _ h => h, ?_, hS, ?_⟩
          · intro W9 hW9; (try dsimp only at hW9); go_simp; try with_reducible rfl
          simp only [Act.put, List.setIfInBounds_toArray]
          dsimp only [List.set_cons_zero, List.set_cons_succ]
          refine take_off (i := 31) (by simp only [List.getElem?_toArray, List.getElem?_cons_succ, List.getElem?_cons_zero]; rfl) ?_
          refine ⟨⟨by as_aux_lemma => kernel_rfl, by as_aux_lemma => kernel_rfl, by as_aux_lemma => kernel_rfl, by rfl⟩, fun _ _ _ h => h, hS, ?_⟩
          simp only [Act.put, List.setIfInBounds_toArray]
          dsimp only [List.set_cons_zero, List.set_cons_succ]
          refine take_off (i := 32) (by simp only [List.getElem?_toArray, List.getElem?_cons_succ, List.getElem?_cons_zero]; rfl) ?_
          refine ⟨⟨by as_aux_lemma => kernel_rfl, by as_aux_lemma => kernel_rfl, by as_aux_lemma => kernel_rfl, by rfl⟩, fun _ _ _ h => h, hS, ?_⟩
          simp only [Act.put, List.setIfInBounds_toArray]
          dsimp only [List.set_cons_zero, List.set_cons_succ]
          refine take_off (i := 33) (by simp only [List.getElem?_toArray, List.getElem?_cons_succ, List.getElem?_cons_zero]; rfl) ?_
          refine ⟨⟨by as_aux_lemma => kernel_rfl, by as_aux_lemma => kernel_rfl, by as_aux_lemma => kernel_rfl, by rfl⟩, fun _ _ _ h => h, hS, ?_⟩
          simp only [Act.put, List.setIfInBounds_toArray]
          dsimp only [List.set_cons_zero, List.set_cons_succ]
          refine take_off (i := 34) (by simp only [List.getElem?_toArray, List.getElem?_cons_succ, List.getElem?_cons_zero]; rfl) ?_
          refine ⟨⟨by as_aux_lemma => kernel_rfl, by as_aux_lemma => kernel_rfl, by as_aux_lemma => kernel_rfl, by rfl⟩, fun _ _ _ h => h, hS, ?_⟩
          simp only [Act.put, List.setIfInBounds_toArray]
          dsimp only [List.set_cons_zero, List.set_cons_succ]
          refine take_on (i := 35) (v := ?_) (by simp only [List.getElem?_toArray, List.getElem?_cons_succ, List.getElem?_cons_zero]; rfl) ?_
          rotate_left
          refine ⟨⟨by as_aux_lemma => kernel_rfl, by as_aux_lemma => kernel_rfl, by as_aux_lemma => kernel_rfl, by rfl⟩, fun _ _ _ h => h, ?_, hS, ?_⟩
          · intro W9 hW9; (try dsimp only at hW9); go_simp; try with_reducible rfl
          simp only [Act.put, List.setIfInBounds_toArray]
          dsimp only [List.set_cons_zero, List.set_cons_succ]
          refine take_on (i := 36) (v := ?_) (by simp only [List.getElem?_toArray, List.getElem?_cons_succ, List.getElem?_cons_zero]; rfl) ?_
          rotate_left
          refine ⟨⟨by as_aux_lemma => kernel_rfl, by as_aux_lemma => kernel_rfl, by as_aux_lemma => kernel_rfl, by rfl⟩, fun _ _ _ h => h, ?_, hS, ?_⟩
          · intro W9 hW9; (try dsimp only at hW9); go_simp; try with_reducible rfl
          simp only [Act.put, List.setIfInBounds_toArray]
          dsimp only [List.set_cons_zero, List.set_cons_succ]
          refine take_on (i := 37) (v := ?_) (by simp only [List.getElem?_toArray, List.getElem?_cons_succ, List.getElem?_cons_zero]; rfl) ?_
          rotate_left
          refine ⟨⟨by as_aux_lemma => kernel_rfl, by as_aux_lemma => kernel_rfl, by as_aux_lemma => kernel_rfl, by rfl⟩, fun _ _ _ h => h, ?_, hS, ?_⟩
          · intro W9 hW9; (try dsimp only at hW9); go_simp; try with_reducible rfl
          simp only [Act.put, List.setIfInBounds_toArray]
          dsimp only [List.set_cons_zero, List.set_cons_succ]
          refine take_on (i := 38) (v := ?_) (by simp only [List.getElem?_toArray, List.getElem?_cons_succ, List.getElem?_cons_zero]; rfl) ?_
          rotate_left
          refine ⟨⟨by as_aux_lemma => kernel_rfl, by as_aux_lemma => kernel_rfl, by as_aux_lemma => kernel_rfl, by rfl⟩, fun _ _ _ h => h, ?_, hS, ?_⟩
          · intro W9 hW9; (try dsimp only at hW9); go_simp; try with_reducible rfl
          simp only [Act.put, List.setIfInBounds_toArray]
          dsimp only [List.set_cons_zero, List.set_cons_succ]
          refine take_on (i := 39) (v := ?_) (by simp only [List.getElem?_toArray, List.getElem?_cons_succ, List.getElem?_cons_zero]; rfl) ?_
          rotate_left
          refine ⟨⟨by as_aux_lemma => kernel_rfl, by as_aux_lemma => kernel_rfl, by as_aux_lemma => kernel_rfl, by rfl⟩, fun _ _ _ h => h, ?_, hS, ?_⟩
          · intro W9 hW9; (try dsimp only at hW9); go_simp; try with_reducible rfl
          simp only [Act.put, List.setIfInBounds_toArray]
          dsimp only [List.set_cons_zero, List.set_cons_succ]
          refine take_on (i := 40) (v := ?_) (by simp only [List.getElem?_toArray, List.getElem?_cons_succ, List.getElem?_cons_zero]; rfl) ?_
          rotate_left
          refine ⟨⟨by as_aux_lemma => kernel_rfl, by as_aux_lemma => kernel_rfl, by as_aux_lemma => kernel_rfl, by rfl⟩, fun _ _ _ h => h, ?_, hS, ?_⟩
          · intro W9 hW9; (try dsimp only at hW9); go_simp; try with_reducible rfl
          simp only [Act.put, List.setIfInBounds_toArray]
          dsimp only [List.set_cons_zero, List.set_cons_succ]
          refine take_on (i := 41) (v := ?_) (by simp only [List.getElem?_toArray, List.getElem?_cons_succ, List.getElem?_cons_zero]; rfl) ?_
          rotate_left
          refine ⟨⟨by as_aux_lemma => kernel_rfl, by as_aux_lemma => kernel_rfl, by as_aux_lemma => kernel_rfl, by rfl⟩, fun _ _ _ h => h, ?_, hS, ?_⟩
          · intro W9 hW9; (try dsimp only at hW9); go_simp; try with_reducible rfl
          simp only [Act.put, List.setIfInBounds_toArray]
          dsimp only [List.set_cons_zero, List.set_cons_succ]
          refine take_off (i := 42) (by simp only [List.getElem?_toArray, List.getElem?_cons_succ, List.getElem?_cons_zero]; rfl) ?_
          refine ⟨⟨by as_aux_lemma => kernel_rfl, by as_aux_lemma => kernel_rfl, by as_aux_lemma => kernel_rfl, by rfl⟩, fun _ _ _ h => h, hS, ?_⟩
          simp only [Act.put, List.setIfInBounds_toArray]
          dsimp only [List.set_cons_zero, List.set_cons_succ]
          refine take_off (i := 43) (by simp only [List.getElem?_toArray, List.getElem?_cons_succ, List.getElem?_cons_zero]; rfl) ?_
          refine ⟨⟨by as_aux_lemma => kernel_rfl, by as_aux_lemma => kernel_rfl, by as_aux_lemma => kernel_rfl, by rfl⟩, fun _ _ _ h => h, hS, ?_⟩
          simp only [Act.put, List.setIfInBounds_toArray]
          dsimp only [List.set_cons_zero, List.set_cons_succ]
          refine take_off (i := 44) (by simp only [List.getElem?_toArray, List.getElem?_cons_succ, List.getElem?_cons_zero]; rfl) ?_
          refine ⟨⟨by as_aux_lemma => kernel_rfl, by as_aux_lemma => kernel_rfl, by as_aux_lemma => kernel_rfl, by rfl⟩, fun _ _ _ h => h, hS, ?_⟩
          simp only [Act.put, List.setIfInBounds_toArray]
          dsimp only [List.set_cons_zero, List.set_cons_succ]
          refine take_off (i := 45) (by simp only [List.getElem?_toArray, List.getElem?_cons_succ, List.getElem?_cons_zero]; rfl) ?_
          refine ⟨⟨by as_aux_lemma => kernel_rfl, by as_aux_lemma => kernel_rfl, by as_aux_lemma => kernel_rfl, by rfl⟩, fun _ _ _ h => h, hS, ?_⟩
          simp only [Act.put, List.setIfInBounds_toArray]
          dsimp only [List.set_cons_zero, List.set_cons_succ]
          refine take_off (i := 46) (by simp only [List.getElem?_toArray, List.getElem?_cons_succ, List.getElem?_cons_zero]; rfl) ?_
          refine ⟨⟨by as_aux_lemma => kernel_rfl, by as_aux_lemma => kernel_rfl, by as_aux_lemma => kernel_rfl, by rfl⟩, fun _ _ _ h => h, hS, ?_⟩
          simp only [Act.put, List.setIfInBounds_toArray]
          dsimp only [List.set_cons_zero, List.set_cons_succ]
          refine take_off (i := 47) (by simp only [List.getElem?_toArray, List.getElem?_cons_succ, List.getElem?_cons_zero]; rfl) ?_
          refine ⟨⟨by as_aux_lemma => kernel_rfl, by as_aux_lemma => kernel_rfl, by as_aux_lemma => kernel_rfl, by rfl⟩, fun _ _ _ h => h, hS, ?_⟩
          simp only [Act.put, List.setIfInBounds_toArray]
          dsimp only [List.set_cons_zero, List.set_cons_succ]
          refine take_off (i := 48) (by simp only [List.getElem?_toArray, List.getElem?_cons_succ, List.getElem?_cons_zero]; rfl) ?_
          refine ⟨⟨by as_aux_lemma => kernel_rfl, by as_aux_lemma => kernel_rfl, by as_aux_lemma => kernel_rfl, by rfl⟩, fun _ _ _ h => h, hS, ?_⟩
          simp only [Act.put, List.setIfInBounds_toArray]
          dsimp only [List.set_cons_zero, List.set_cons_succ]
          refine take_off (i := 49) (by simp only [List.getElem?_toArray, List.getElem?_cons_succ, List.getElem?_cons_zero]; rfl) ?_
          refine ⟨⟨by as_aux_lemma => kernel_rfl, by as_aux_lemma => kernel_rfl, by as_aux_lemma => kernel_rfl, by rfl⟩, fun _ _ _ h => h, hS, ?_⟩
          simp only [Act.put, List.setIfInBounds_toArray]
          dsimp only [List.set_cons_zero, List.set_cons_succ]
          refine take_on (i := 50) (v := ?_) (by simp only [List.getElem?_toArray, List.getElem?_cons_succ, List.getElem?_cons_zero]; rfl) ?_
          rotate_left
          refine ⟨⟨by as_aux_lemma => kernel_rfl, by as_aux_lemma => kernel_rfl, by as_aux_lemma => kernel_rfl, by rfl⟩, fun _ _ _ h => h, ?_, hS, ?_⟩
          · intro W9 hW9; (try dsimp only at hW9); go_simp; try with_reducible rfl
          simp only [Act.put, List.setIfInBounds_toArray]
          dsimp only [List.set_cons_zero, List.set_cons_succ]
          refine take_on (i := 51) (v := ?_) (by simp only [List.getElem?_toArray, List.getElem?_cons_succ, List.getElem?_cons_zero]; rfl) ?_
          rotate_left
          refine ⟨⟨by as_aux_lemma => kernel_rfl, by as_aux_lemma => kernel_rfl, by as_aux_lemma => kernel_rfl, by rfl⟩, fun _ _ _ h => h, ?_, hS, ?_⟩
          · intro W9 hW9; (try dsimp only at hW9); go_simp; try with_reducible rfl
          simp only [Act.put, List.setIfInBounds_toArray]
          dsimp only [List.set_cons_zero, List.set_cons_succ]
          refine take_on (i := 52) (v := ?_) (by simp only [List.getElem?_toArray, List.getElem?_cons_succ, List.getElem?_cons_zero]; rfl) ?_
          rotate_left
          refine ⟨⟨by as_aux_lemma => kernel_rfl, by as_aux_lemma => kernel_rfl, by as_aux_lemma => kernel_rfl, by rfl⟩, fun _ _ _ h => h, ?_, hS, ?_⟩
          · intro W9 hW9; (try dsimp only at hW9); go_simp; try with_reducible rfl
          simp only [Act.put, List.setIfInBounds_toArray]
          dsimp only [List.set_cons_zero, List.set_cons_succ]
          refine take_on (i := 53) (v := ?_) (by simp only [List.getElem?_toArray, List.getElem?_cons_succ, List.getElem?_cons_zero]; rfl) ?_
          rotate_left
          refine ⟨⟨by as_aux_lemma => kernel_rfl, by as_aux_lemma => kernel_rfl, by as_aux_lemma => kernel_rfl, by rfl⟩, fun _ _ _ h => h, ?_, hS, ?_⟩
          · intro W9 hW9; (try dsimp only at hW9); go_simp; try with_reducible rfl
          simp only [Act.put, List.setIfInBounds_toArray]
          dsimp only [List.set_cons_zero, List.set_cons_succ]
          refine take_on (i := 54) (v := ?_) (by simp only [List.getElem?_toArray, List.getElem?_cons_succ, List.getElem?_cons_zero]; rfl) ?_
          rotate_left
          refine ⟨⟨by as_aux_lemma => kernel_rfl, by as_aux_lemma => kernel_rfl, by as_aux_lemma => kernel_rfl, by rfl⟩, fun _ _ _ h => h, ?_, hS, ?_⟩
          · intro W9 hW9; (try dsimp only at hW9); go_simp; try with_reducible rfl
          simp only [Act.put, List.setIfInBounds_toArray]
          dsimp only [List.set_cons_zero, List.set_cons_succ]
          refine take_on (i := 55) (v := ?_) (by simp only [List.getElem?_toArray, List.getElem?_cons_succ, List.getElem?_cons_zero]; rfl) ?_
          rotate_left
          refine ⟨⟨by as_aux_lemma => kernel_rfl, by as_aux_lemma => kernel_rfl, by as_aux_lemma => kernel_rfl, by rfl⟩, fun _ _ _ h => h, ?_, hS, ?_⟩
          · intro W9 hW9; (try dsimp only at hW9); go_simp; try with_reducible rfl
          simp only [Act.put, List.setIfInBounds_toArray]
          dsimp only [List.set_cons_zero, List.set_cons_succ]
          refine take_on (i := 56) (v := ?_) (by simp only [List.getElem?_toArray, List.getElem?_cons_succ, List.getElem?_cons_zero]; rfl) ?_
          rotate_left
          refine ⟨⟨by as_aux_lemma => kernel_rfl, by as_aux_lemma => kernel_rfl, by as_aux_lemma => kernel_rfl, by rfl⟩, fun _ _ _ h => h, ?_, hS, ?_⟩
          · intro W9 hW9; (try dsimp only at hW9); go_simp; try with_reducible rfl
          simp only [Act.put, List.setIfInBounds_toArray]
          dsimp only [List.set_cons_zero, List.set_cons_succ]
          refine take_on (i := 57) (v := ?_) (by simp only [List.getElem?_toArray, List.getElem?_cons_succ, List.getElem?_cons_zero]; rfl) ?_
          rotate_left
          refine ⟨⟨by as_aux_lemma => kernel_rfl, by as_aux_lemma => kernel_rfl, by as_aux_lemma => kernel_rfl, by rfl⟩, fun _ _ _ h => h, ?_, hS, ?_⟩
          · intro W9 hW9; (try dsimp only at hW9); go_simp; try with_reducible rfl
          simp only [Act.put, List.setIfInBounds_toArray]
          dsimp only [List.set_cons_zero, List.set_cons_succ]
          refine take_on (i := 58) (v := ?_) (by simp only [List.getElem?_toArray, List.getElem?_cons_succ, List.getElem?_cons_zero]; rfl) ?_
          rotate_left
          refine ⟨⟨by as_aux_lemma => kernel_rfl, by as_aux_lemma => kernel_rfl, by as_aux_lemma => kernel_rfl, by rfl⟩, fun _ _ _ h => h, ?_, hS, ?_⟩
          · intro W9 hW9; (try dsimp only at hW9); go_simp; try with_reducible rfl
          simp only [Act.put, List.setIfInBounds_toArray]
          dsimp only [List.set_cons_zero, List.set_cons_succ]
          refine take_on (i := 59) (v := ?_) (by simp only [List.getElem?_toArray, List.getElem?_cons_succ, List.getElem?_cons_zero]; rfl) ?_
          rotate_left
          refine ⟨⟨by as_aux_lemma => kernel_rfl, by as_aux_lemma => kernel_rfl, by as_aux_lemma => kernel_rfl, by rfl⟩, fun _ _ _ h => h, ?_, hS, ?_⟩
          · intro W9 hW9; (try dsimp only at hW9); go_simp; try with_reducible rfl
          simp only [Act.put, List.setIfInBounds_toArray]
          dsimp only [List.set_cons_zero, List.set_cons_succ]
          refine take_on (i := 60) (v := ?_) (by simp only [List.getElem?_toArray, List.getElem?_cons_succ, List.getElem?_cons_zero]; rfl) ?_
          rotate_left
          refine ⟨⟨by as_aux_lemma => kernel_rfl, by as_aux_lemma => kernel_rfl, by as_aux_lemma => kernel_rfl, by rfl⟩, fun _ _ _ h => h, ?_, hS, ?_⟩
          · intro W9 hW9; (try dsimp only at hW9); go_simp; try with_reducible rfl
          simp only [Act.put, List.setIfInBounds_toArray]
          dsimp only [List.set_cons_zero, List.set_cons_succ]
          refine take_on (i := 61) (v := ?_) (by simp only [List.getElem?_toArray, List.getElem?_cons_succ, List.getElem?_cons_zero]; rfl) ?_
          rotate_left
          refine ⟨⟨by as_aux_lemma => kernel_rfl, by as_aux_lemma => kernel_rfl, by as_aux_lemma => kernel_rfl, by rfl⟩, fun _ _ _ h => h, ?_, hS, ?_⟩
          · intro W9 hW9; (try dsimp only at hW9); go_simp; try with_reducible rfl
          simp only [Act.put, List.setIfInBounds_toArray]
          dsimp only [List.set_cons_zero, List.set_cons_succ]
          refine take_on (i := 62) (v := ?_) (by simp only [List.getElem?_toArray, List.getElem?_cons_succ, List.getElem?_cons_zero]; rfl) ?_
          rotate_left
          refine ⟨⟨by as_aux_lemma => kernel_rfl, by as_aux_lemma => kernel_rfl, by as_aux_lemma => kernel_rfl, by rfl⟩, fun _ _ _ h => h, ?_, hS, ?_⟩
          · intro W9 hW9; (try dsimp only at hW9); go_simp; try with_reducible rfl
          simp only [Act.put, List.setIfInBounds_toArray]
          dsimp only [List.set_cons_zero, List.set_cons_succ]
          refine take_on (i := 63) (v := ?_) (by simp only [List.getElem?_toArray, List.getElem?_cons_succ, List.getElem?_cons_zero]; rfl) ?_
          rotate_left
          refine ⟨⟨by as_aux_lemma => kernel_rfl, by as_aux_lemma => kernel_rfl, by as_aux_lemma => kernel_rfl, by rfl⟩, fun _ _ _ h => h, ?_, hS, ?_⟩
          · intro W9 hW9; (try dsimp only at hW9); go_simp; try with_reducible rfl
          simp only [Act.put, List.setIfInBounds_toArray]
          dsimp only [List.set_cons_zero, List.set_cons_succ]
          refine take_on (i := 64) (v := ?_) (by simp only [List.getElem?_toArray, List.getElem?_cons_succ, List.getElem?_cons_zero]; rfl) ?_
          rotate_left
          refine ⟨⟨by as_aux_lemma => kernel_rfl, by as_aux_lemma => kernel_rfl, by as_aux_lemma => kernel_rfl, by rfl⟩, fun _ _ _ h => h, ?_, hS, ?_⟩
          · intro W9 hW9; (try dsimp only at hW9); go_simp; try with_reducible rfl
          simp only [Act.put, List.setIfInBounds_toArray]
          dsimp only [List.set_cons_zero, List.set_cons_succ]
          refine take_on (i := 65) (v := ?_) (by simp only [List.getElem?_toArray, List.getElem?_cons_succ, List.getElem?_cons_zero]; rfl) ?_
          rotate_left
          refine ⟨⟨by as_aux_lemma => kernel_rfl, by as_aux_lemma => kernel_rfl, by as_aux_lemma => kernel_rfl, by rfl⟩, fun _ _ _ h => h, ?_, hS, ?_⟩
          · intro W9 hW9; (try dsimp only at hW9); go_simp; try with_reducible rfl
          simp only [Act.put, List.setIfInBounds_toArray]
          dsimp only [List.set_cons_zero, List.set_cons_succ]
          refine take_on (i := 66) (v := ?_) (by simp only [List.getElem?_toArray, List.getElem?_cons_succ, List.getElem?_cons_zero]; rfl) ?_
          rotate_left
          refine ⟨⟨by as_aux_lemma => kernel_rfl, by as_aux_lemma => kernel_rfl, by as_aux_lemma => kernel_rfl, by rfl⟩, fun _ _ _ h => h, ?_, hS, ?_⟩
          · intro W9 hW9; (try dsimp only at hW9); go_simp; try with_reducible rfl
          simp only [Act.put, List.setIfInBounds_toArray]
          dsimp only [List.set_cons_zero, List.set_cons_succ]
          refine take_on (i := 67) (v := ?_) (by simp only [List.getElem?_toArray, List.getElem?_cons_succ, List.getElem?_cons_zero]; rfl) ?_
          rotate_left
          refine ⟨⟨by as_aux_lemma => kernel_rfl, by as_aux_lemma => kernel_rfl, by as_aux_lemma => kernel_rfl, by rfl⟩, fun _ _ _ h => h, ?_, hS, ?_⟩
          · intro W9 hW9; (try dsimp only at hW9); go_simp; try with_reducible rfl
          simp only [Act.put, List.setIfInBounds_toArray]
          dsimp only [List.set_cons_zero, List.set_cons_succ]
          refine take_on (i := 68) (v := ?_) (by simp only [List.getElem?_toArray, List.getElem?_cons_succ, List.getElem?_cons_zero]; rfl) ?_
          rotate_left
          refine ⟨⟨by as_aux_lemma => kernel_rfl, by as_aux_lemma => kernel_rfl, by as_aux_lemma => kernel_rfl, by rfl⟩, fun _ _ _ h => h, ?_, hS, ?_⟩
          · intro W9 hW9; (try dsimp only at hW9); go_simp; try with_reducible rfl
          simp only [Act.put, List.setIfInBounds_toArray]
          dsimp only [List.set_cons_zero, List.set_cons_succ]
          refine take_on (i := 69) (v := .bool false) (by simp only [List.getElem?_toArray, List.getElem?_cons_succ, List.getElem?_cons_zero]; rfl) ?_
          refine ⟨⟨by as_aux_lemma => kernel_rfl, by as_aux_lemma => kernel_rfl, by as_aux_lemma => kernel_rfl, by rfl⟩, fun _ _ _ h => h, ?_, hS, ?_⟩
          · intro W9 hW9; (try dsimp only at hW9); go_simp <;> (first | done | omega | (simp; done) | (simp; omega))
          simp only [Act.put, List.setIfInBounds_toArray]
          dsimp only [List.set_cons_zero, List.set_cons_succ]
          refine take_on (i := 70) (v := ?_) (by simp only [List.getElem?_toArray, List.getElem?_cons_succ, List.getElem?_cons_zero]; rfl) ?_
          rotate_left
          refine ⟨⟨by as_aux_lemma => kernel_rfl, by as_aux_lemma => kernel_rfl, by as_aux_lemma => kernel_rfl, by rfl⟩, fun _ _ _ h => h, ?_, hS, ?_⟩
          · intro W9 hW9; (try dsimp only at hW9); go_simp; try with_reducible rfl
          simp only [Act.put, List.setIfInBounds_toArray]
          dsimp only [List.set_cons_zero, List.set_cons_succ]
          refine take_on (i := 71) (v := ?_) (by simp only [List.getElem?_toArray, List.getElem?_cons_succ, List.getElem?_cons_zero]; rfl) ?_
          rotate_left
          refine ⟨⟨by as_aux_lemma => kernel_rfl, by as_aux_lemma => kernel_rfl, by as_aux_lemma => kernel_rfl, by rfl⟩, fun _ _ _ h => h, ?_, hS, ?_⟩
          · intro W9 hW9; (try dsimp only at hW9); go_simp; try with_reducible rfl
          simp only [Act.put, List.setIfInBounds_toArray]
          dsimp only [List.set_cons_zero, List.set_cons_succ]
          refine take_on (i := 72) (v := ?_) (by simp only [List.getElem?_toArray, List.getElem?_cons_succ, List.getElem?_cons_zero]; rfl) ?_
          rotate_left
          refine ⟨⟨by as_aux_lemma => kernel_rfl, by as_aux_lemma => kernel_rfl, by as_aux_lemma => kernel_rfl, by rfl⟩, fun _ _ _ h => h, ?_, hS, ?_⟩
          · intro W9 hW9; (try dsimp only at hW9); go_simp; try with_reducible rfl
          simp only [Act.put, List.setIfInBounds_toArray]
          dsimp only [List.set_cons_zero, List.set_cons_succ]
          refine take_on (i := 73) (v := ?_) (by simp only [List.getElem?_toArray, List.getElem?_cons_succ, List.getElem?_cons_zero]; rfl) ?_
          rotate_left
          refine ⟨⟨by as_aux_lemma => kernel_rfl, by as_aux_lemma => kernel_rfl, by as_aux_lemma => kernel_rfl, by rfl⟩, fun _ _ _ h => h, ?_, hS, ?_⟩
          · intro W9 hW9; (try dsimp only at hW9); go_simp; try with_reducible rfl
          simp only [Act.put, List.setIfInBounds_toArray]
          dsimp only [List.set_cons_zero, List.set_cons_succ]
          refine take_on (i := 74) (v := ?_) (by simp only [List.getElem?_toArray, List.getElem?_cons_succ, List.getElem?_cons_zero]; rfl) ?_
          rotate_left
          refine ⟨⟨by as_aux_lemma => kernel_rfl, by as_aux_lemma => kernel_rfl, by as_aux_lemma => kernel_rfl, by rfl⟩, fun _ _ _ h => h, ?_, hS, ?_⟩
          · intro W9 hW9; (try dsimp only at hW9); go_simp; try with_reducible rfl
          simp only [Act.put, List.setIfInBounds_toArray]
          dsimp only [List.set_cons_zero, List.set_cons_succ]
          refine take_on (i := 75) (v := ?_) (by simp only [List.getElem?_toArray, List.getElem?_cons_succ, List.getElem?_cons_zero]; rfl) ?_
          rotate_left
          refine ⟨⟨by as_aux_lemma => kernel_rfl, by as_aux_lemma => kernel_rfl, by as_aux_lemma => kernel_rfl, by rfl⟩, fun _ _ _ h => h, ?_, hS, ?_⟩
          · intro W9 hW9; (try dsimp only at hW9); go_simp; try with_reducible rfl
          simp only [Act.put, List.setIfInBounds_toArray]
          dsimp only [List.set_cons_zero, List.set_cons_succ]
          refine take_on (i := 76) (v := ?_) (by simp only [List.getElem?_toArray, List.getElem?_cons_succ, List.getElem?_cons_zero]; rfl) ?_
          rotate_left
          refine ⟨⟨by as_aux_lemma => kernel_rfl, by as_aux_lemma => kernel_rfl, by as_aux_lemma => kernel_rfl, by rfl⟩, fun _ _ _ h => h, ?_, hS, ?_⟩
          · intro W9 hW9; (try dsimp only at hW9); go_simp; try with_reducible rfl
          simp only [Act.put, List.setIfInBounds_toArray]
          dsimp only [List.set_cons_zero, List.set_cons_succ]
          refine take_off (i := 77) (by simp only [List.getElem?_toArray, List.getElem?_cons_succ, List.getElem?_cons_zero]; rfl) ?_
          refine ⟨⟨by as_aux_lemma => kernel_rfl, by as_aux_lemma => kernel_rfl, by as_aux_lemma => kernel_rfl, by rfl⟩, fun _ _ _ h => h, hS, ?_⟩
          simp only [Act.put, List.setIfInBounds_toArray]
          dsimp only [List.set_cons_zero, List.set_cons_succ]
          refine take_off (i := 78) (by simp only [List.getElem?_toArray, List.getElem?_cons_succ, List.getElem?_cons_zero]; rfl) ?_
          refine ⟨⟨by as_aux_lemma => kernel_rfl, by as_aux_lemma => kernel_rfl, by as_aux_lemma => kernel_rfl, by rfl⟩, fun _ _ _ h => h, hS, ?_⟩
          simp only [Act.put, List.setIfInBounds_toArray]
          dsimp only [List.set_cons_zero, List.set_cons_succ]
          refine take_off (i := 79) (by simp only [List.getElem?_toArray, List.getElem?_cons_succ, List.getElem?_cons_zero]; rfl) ?_
          refine ⟨⟨by as_aux_lemma => kernel_rfl, by as_aux_lemma => kernel_rfl, by as_aux_lemma => kernel_rfl, by rfl⟩, fun _ _ _ h => h, hS, ?_⟩
          simp only [Act.put, List.setIfInBounds_toArray]
          dsimp only [List.set_cons_zero, List.set_cons_succ]
          refine take_off (i := 80) (by simp only [List.getElem?_toArray, List.getElem?_cons_succ, List.getElem?_cons_zero]; rfl) ?_
          refine ⟨⟨by as_aux_lemma => kernel_rfl, by as_aux_lemma => kernel_rfl, by as_aux_lemma => kernel_rfl, by rfl⟩, fun _ _ _ h => h, hS, ?_⟩
          simp only [Act.put, List.setIfInBounds_toArray]
          dsimp only [List.set_cons_zero, List.set_cons_succ]
          refine take_off (i := 81) (by simp only [List.getElem?_toArray, List.getElem?_cons_succ, List.getElem?_cons_zero]; rfl) ?_
          refine ⟨⟨by as_aux_lemma => kernel_rfl, by as_aux_lemma => kernel_rfl, by as_aux_lemma => kernel_rfl, by rfl⟩, fun _ _ _ h => h, hS, ?_⟩
          simp only [Act.put, List.setIfInBounds_toArray]
          dsimp only [List.set_cons_zero, List.set_cons_succ]
          refine take_off (i := 82) (by simp only [List.getElem?_toArray, List.getElem?_cons_succ, List.getElem?_cons_zero]; rfl) ?_
          refine ⟨⟨by as_aux_lemma => kernel_rfl, by as_aux_lemma => kernel_rfl, by as_aux_lemma => kernel_rfl, by rfl⟩, fun _ _ _ h => h, hS, ?_⟩
          simp only [Act.put, List.setIfInBounds_toArray]
          dsimp only [List.set_cons_zero, List.set_cons_succ]
          refine take_off (i := 83) (by simp only [List.getElem?_toArray, List.getElem?_cons_succ, List.getElem?_cons_zero]; rfl) ?_
          refine ⟨⟨by as_aux_lemma => kernel_rfl, by as_aux_lemma => kernel_rfl, by as_aux_lemma => kernel_rfl, by rfl⟩, fun _ _ _ h => h, hS, ?_⟩
          simp only [Act.put, List.setIfInBounds_toArray]
          dsimp only [List.set_cons_zero, List.set_cons_succ]
          refine take_off (i := 84) (by simp only [List.getElem?_toArray, List.getElem?_cons_succ, List.getElem?_cons_zero]; rfl) ?_
          refine ⟨⟨by as_aux_lemma => kernel_rfl, by as_aux_lemma => kernel_rfl, by as_aux_lemma => kernel_rfl, by rfl⟩, fun _ _ _ h => h, hS, ?_⟩
          simp only [Act.put, List.setIfInBounds_toArray]
          dsimp only [List.set_cons_zero, List.set_cons_succ]
          refine take_off (i := 85) (by simp only [List.getElem?_toArray, List.getElem?_cons_succ, List.getElem?_cons_zero]; rfl) ?_
          refine ⟨⟨by as_aux_lemma => kernel_rfl, by as_aux_lemma => kernel_rfl, by as_aux_lemma => kernel_rfl, by rfl⟩, fun _ _ _ h => h, hS, ?_⟩
          simp only [Act.put, List.setIfInBounds_toArray]
          dsimp only [List.set_cons_zero, List.set_cons_succ]
          refine take_off (i := 86) (by simp only [List.getElem?_toArray, List.getElem?_cons_succ, List.getElem?_cons_zero]; rfl) ?_
          refine ⟨⟨by as_aux_lemma => kernel_rfl, by as_aux_lemma => kernel_rfl, by as_aux_lemma => kernel_rfl, by rfl⟩, fun _ _ _ h => h, hS, ?_⟩
          simp only [Act.put, List.setIfInBounds_toArray]
          dsimp only [List.set_cons_zero, List.set_cons_succ]
          refine take_off (i := 87) (by simp only [List.getElem?_toArray, List.getElem?_cons_succ, List.getElem?_cons_zero]; rfl) ?_
          refine ⟨⟨by as_aux_lemma => kernel_rfl, by as_aux_lemma => kernel_rfl, by as_aux_lemma => kernel_rfl, by rfl⟩, fun _ _ _ h => h, hS, ?_⟩
          simp only [Act.put, List.setIfInBounds_toArray]
          dsimp only [List.set_cons_zero, List.set_cons_succ]
          refine take_off (i := 88) (by simp only [List.getElem?_toArray, List.getElem?_cons_succ, List.getElem?_cons_zero]; rfl) ?_
          refine ⟨⟨by as_aux_lemma => kernel_rfl, by as_aux_lemma => kernel_rfl, by as_aux_lemma => kernel_rfl, by rfl⟩, fun _ _ _ h => h, hS, ?_⟩
          simp only [Act.put, List.setIfInBounds_toArray]
          dsimp only [List.set_cons_zero, List.set_cons_succ]
          refine take_off (i := 89) (by simp only [List.getElem?_toArray, List.getElem?_cons_succ, List.getElem?_cons_zero]; rfl) ?_
          refine ⟨⟨by as_aux_lemma => kernel_rfl, by as_aux_lemma => kernel_rfl, by as_aux_lemma => kernel_rfl, by rfl⟩, fun _ _ _ h => h, hS, ?_⟩
          simp only [Act.put, List.setIfInBounds_toArray]
          dsimp only [List.set_cons_zero, List.set_cons_succ]
          refine take_on (i := 90) (v := ?_) (by simp only [List.getElem?_toArray, List.getElem?_cons_succ, List.getElem?_cons_zero]; rfl) ?_
          rotate_left
          refine ⟨⟨by as_aux_lemma => kernel_rfl, by as_aux_lemma => kernel_rfl, by as_aux_lemma => kernel_rfl, by rfl⟩, fun _ _ _ h => h, ?_, hS, ?_⟩
          · intro W9 hW9; (try dsimp only at hW9); go_simp; try with_reducible rfl
          simp only [Act.put, List.setIfInBounds_toArray]
          dsimp only [List.set_cons_zero, List.set_cons_succ]
          refine take_on (i := 91) (v := ?_) (by simp only [List.getElem?_toArray, List.getElem?_cons_succ, List.getElem?_cons_zero]; rfl) ?_
          rotate_left
          refine ⟨⟨by as_aux_lemma => kernel_rfl, by as_aux_lemma => kernel_rfl, by as_aux_lemma => kernel_rfl, by rfl⟩, fun _ _ _ h => h, ?_, hS, ?_⟩
          · intro W9 hW9; (try dsimp only at hW9); go_simp; try with_reducible rfl
          simp only [Act.put, List.setIfInBounds_toArray]
          dsimp only [List.set_cons_zero, List.set_cons_succ]
          refine wpAnyH_done (by kernel_rfl) ?_ _
          go_wp2_with fail
          go_roundw
          case rel => exact ⟨k + 1, by omega, by go_num, k0k, k1k, (by (repeat (first | with_reducible assumption | with_reducible exact Below.refl _ _ | (with_reducible refine bel_next ?_ ?_ (by assumption)) | (with_reducible refine Below.alloc ?_ ?_ _) | (with_reducible refine Below.drew ?_) | (with_reducible refine below_drewN ?_ _) | (with_reducible refine Below.setCell ?_ ?_ _))) <;> (first | omega | (simp; done) | (simp; omega))), (by (repeat (first | with_reducible assumption | with_reducible exact Below.refl _ _ | (with_reducible refine bel_next ?_ ?_ (by assumption)) | (with_reducible refine Below.alloc ?_ ?_ _) | (with_reducible refine Below.drew ?_) | (with_reducible refine below_drewN ?_ _) | (with_reducible refine Below.setCell ?_ ?_ _))) <;> (first | omega | (simp; done) | (simp; omega)))⟩
          case measure => first | (simp [intOf]; done) | (simp [intOf]; omega)
      · as_aux_lemma =>
          obtain ⟨n1, rfl⟩ := Int.eq_ofNat_of_zero_le q1
          have c1x := (HQW.out.below hbg).elemC n1 (by rw [HEL.out]; omega)
          have n1b : (n1 : Int) < (gs.length : Int) := by omega
          have p1 := HPRE.out (n1 : Int) (by omega) (by omega)
          have b1 := at0_b (i := (n1 : Int)) HEB.out (by omega) (by omega)
          obtain ⟨x, hx⟩ : ∃ x, x = at0 EW (n1 : Int) := ⟨_, rfl⟩
          rw [← hx] at c1x p1 b1
          obtain ⟨b1a, b1b⟩ := b1
          obtain ⟨n2, rfl⟩ := Int.eq_ofNat_of_zero_le q3
          have c2x := (HQW.out.below hbg).elemC n2 (by rw [HEL.out]; omega)
          have n2b : (n2 : Int) < (gs.length : Int) := by omega
          have p2 := HPRE.out (n2 : Int) (by omega) (by omega)
          obtain ⟨y, hy⟩ : ∃ x, x = at0 EW (n2 : Int) := ⟨_, rfl⟩
          rw [← hy] at c2x p2
          obtain rfl : v = bits .and .i64 x y := by rw [HV.out]; simp [gval, andI, p1, p2]
          clear p1 p2 hx hy
          have e1a := cell_al (o := .cells #[.int .i64 4, .int .i64 (n1 : Int), .int .i64 (n2 : Int)] 50) e1
          have c1xa := cell_al (o := .cells #[.int .i64 4, .int .i64 (n1 : Int), .int .i64 (n2 : Int)] 50) c1x
          have c2xa := cell_al (o := .cells #[.int .i64 4, .int .i64 (n1 : Int), .int .i64 (n2 : Int)] 50) c2x
          have k0a := cell_al (o := .cells #[.int .i64 4, .int .i64 (n1 : Int), .int .i64 (n2 : Int)] 50) k0
          have k1a := cell_al (o := .cells #[.int .i64 4, .int .i64 (n1 : Int), .int .i64 (n2 : Int)] 50) k1
          have nv0 : ¬ (bits .and .i64 x y) < (0 : Int) := by omega
          have nv1 : ¬ (1 : Int) < (bits .and .i64 x y) := by omega
          go_wp2_with fail
          (try simp only [List.append_eq, List.cons_append, List.nil_append])
          refine wp_region_held_drew (S := fun w' => w'.cell? ⟨wr.heap.size, 0, none⟩ = some (.int .i64 4) ∧ w'.cell? ⟨wr.heap.size, 1, none⟩ = some (.int .i64 (n1 : Int)) ∧ w'.cell? ⟨wr.heap.size, 2, none⟩ = some (.int .i64 (n2 : Int)) ∧ w'.cell? ⟨bw, fw + n1, none⟩ = some (.int .i64 (x)) ∧ w'.cell? ⟨bw, fw + n2, none⟩ = some (.int .i64 (y)) ∧ w'.cell? ⟨w1.heap.size, 0, none⟩ = some (.slice (some ⟨g1, 0, none⟩) gs.length c1) ∧ w'.cell? ⟨w1.heap.size, 1, none⟩ = some (.slice (some ⟨g2, 0, none⟩) os.length c2)) (by kernel_rfl) ?_ (fun hS => ?_)
          · first | go_keep | (dsimp only; go_keep)
          refine take_on (i := 0) (v := ?_) (by simp only [List.getElem?_toArray, List.getElem?_cons_succ, List.getElem?_cons_zero]; rfl) ?_
          rotate_left
          refine ⟨⟨by as_aux_lemma => kernel_rfl, by as_aux_lemma => kernel_rfl, by as_aux_lemma => kernel_rfl, by rfl⟩, fun _ _ _ h => h, ?_, hS, ?_⟩
          · intro W9 hW9; (try dsimp only at hW9); go_simp; try with_reducible rfl
          simp only [Act.put, List.setIfInBounds_toArray]
          dsimp only [List.set_cons_zero, List.set_cons_succ]
          refine take_on (i := 1) (v := ?_) (by simp only [List.getElem?_toArray, List.getElem?_cons_succ, List.getElem?_cons_zero]; rfl) ?_
          rotate_left
          refine ⟨⟨by as_aux_lemma => kernel_rfl, by as_aux_lemma => kernel_rfl, by as_aux_lemma => kernel_rfl, by rfl⟩, fun _ _ _ h => h, ?_, hS, ?_⟩
          · intro W9 hW9; (try dsimp only at hW9); go_simp; try with_reducible rfl
          simp only [Act.put, List.setIfInBounds_toArray]
          dsimp only [List.set_cons_zero, List.set_cons_succ]
          refine wpAnyH_ready (rs := [2]) (by kernel_rfl) (by simp) ?_
          refine AllReadyH.cons (by simp only [List.getElem?_toArray, List.getElem?_cons_succ, List.getElem?_cons_zero]; rfl) (fun K hK => ?_) AllReadyH.nil
          go_simp
          go_at_call 46; refine (iGateOk_any 4 (n1 : Int) (n2 : Int) (k : Int) _).mono ?_; rintro e v3 ⟨rfl, hv3⟩; rw [HGO.out]; have zv := hv3.size; (try simp at zv); have e1k := bel_keeps hv3 e1a; have c1xk := bel_keeps hv3 c1xa; have c2xk := bel_keeps hv3 c2xa; have k0k := bel_keeps hv3 k0a; have k1k := bel_keeps hv3 k1a; have g0k := bel_keeps hv3 (b := wr.heap.size) (o := 0) (v := .int .i64 4) (by first | (go_simp; done) | assumption); have g1k := bel_keeps hv3 (b := wr.heap.size) (o := 1) (v := .int .i64 (n1 : Int)) (by first | (go_simp; done) | assumption); have g2k := bel_keeps hv3 (b := wr.heap.size) (o := 2) (v := .int .i64 (n2 : Int)) (by first | (go_simp; done) | assumption)
          go_wp2_with fail
          refine hK.out _ _ ?_ (fun hS => ?_)
          · first | go_keep | (dsimp only; go_keep)
          clear hK K
          (try simp only [Act.put, List.setIfInBounds_toArray])
          (try dsimp only [List.set_cons_zero, List.set_cons_succ])
          refine take_on (i := 3) (v := ?_) (by simp only [List.getElem?_toArray, List.getElem?_cons_succ, List.getElem?_cons_zero]; rfl) ?_
          rotate_left
          refine ⟨⟨by as_aux_lemma => kernel_rfl, by as_aux_lemma => kernel_rfl, by as_aux_lemma => kernel_rfl, by rfl⟩, fun _ _ _ h => h, ?_, hS, ?_⟩
          · intro W9 hW9; (try dsimp only at hW9); go_simp; try with_reducible rfl
          simp only [Act.put, List.setIfInBounds_toArray]
          dsimp only [List.set_cons_zero, List.set_cons_succ]
          refine take_on (i := 4) (v := ?_) (by simp only [List.getElem?_toArray, List.getElem?_cons_succ, List.getElem?_cons_zero]; rfl) ?_
          rotate_left
          refine ⟨⟨by as_aux_lemma => kernel_rfl, by as_aux_lemma => kernel_rfl, by as_aux_lemma => kernel_rfl, by rfl⟩, fun _ _ _ h => h, ?_, hS, ?_⟩
          · intro W9 hW9; (try dsimp only at hW9); go_simp; try with_reducible rfl
          simp only [Act.put, List.setIfInBounds_toArray]
          dsimp only [List.set_cons_zero, List.set_cons_succ]
          refine take_on (i := 5) (v := ?_) (by simp only [List.getElem?_toArray, List.getElem?_cons_succ, List.getElem?_cons_zero]; rfl) ?_
          rotate_left
          refine ⟨⟨by as_aux_lemma => kernel_rfl, by as_aux_lemma => kernel_rfl, by as_aux_lemma => kernel_rfl, by rfl⟩, fun _ _ _ h => h, ?_, hS, ?_⟩
          · intro W9 hW9; (try dsimp only at hW9); go_simp; try with_reducible rfl
          simp only [Act.put, List.setIfInBounds_toArray]
          dsimp only [List.set_cons_zero, List.set_cons_succ]
          refine take_on (i := 6) (v := .bool false) (by simp only [List.getElem?_toArray, List.getElem?_cons_succ, List.getElem?_cons_zero]; rfl) ?_
          refine ⟨⟨by as_aux_lemma => kernel_rfl, by as_aux_lemma => kernel_rfl, by as_aux_lemma => kernel_rfl, by rfl⟩, fun _ _ _ h => h, ?_, hS, ?_⟩
          · intro W9 hW9; (try dsimp only at hW9); go_simp <;> (first | done | omega | (simp; done) | (simp; omega))
          simp only [Act.put, List.setIfInBounds_toArray]
          dsimp only [List.set_cons_zero, List.set_cons_succ]
          refine take_on (i := 7) (v := ?_) (by simp only [List.getElem?_toArray, List.getElem?_cons_succ, List.getElem?_cons_zero]; rfl) ?_
          rotate_left
          refine ⟨⟨by as_aux_lemma => kernel_rfl, by as_aux_lemma => kernel_rfl, by as_aux_lemma => kernel_rfl, by rfl⟩, fun _ _ _ h => h, ?_, hS, ?_⟩
          · intro W9 hW9; (try dsimp only at hW9); go_simp; try with_reducible rfl
          simp only [Act.put, List.setIfInBounds_toArray]
          dsimp only [List.set_cons_zero, List.set_cons_succ]
          refine take_on (i := 8) (v := ?_) (by simp only [List.getElem?_toArray, List.getElem?_cons_succ, List.getElem?_cons_zero]; rfl) ?_
          rotate_left
          refine ⟨⟨by as_aux_lemma => kernel_rfl, by as_aux_lemma => kernel_rfl, by as_aux_lemma => kernel_rfl, by rfl⟩, fun _ _ _ h => h, ?_, hS, ?_⟩
          · intro W9 hW9; (try dsimp only at hW9); go_simp; try with_reducible rfl
          simp only [Act.put, List.setIfInBounds_toArray]
          dsimp only [List.set_cons_zero, List.set_cons_succ]
          refine take_on (i := 9) (v := ?_) (by simp only [List.getElem?_toArray, List.getElem?_cons_succ, List.getElem?_cons_zero]; rfl) ?_
          rotate_left
          refine ⟨⟨by as_aux_lemma => kernel_rfl, by as_aux_lemma => kernel_rfl, by as_aux_lemma => kernel_rfl, by rfl⟩, fun _ _ _ h => h, ?_, hS, ?_⟩
          · intro W9 hW9; (try dsimp only at hW9); go_simp; try with_reducible rfl
          simp only [Act.put, List.setIfInBounds_toArray]
          dsimp only [List.set_cons_zero, List.set_cons_succ]
          refine take_on (i := 10) (v := .bool false) (by simp only [List.getElem?_toArray, List.getElem?_cons_succ, List.getElem?_cons_zero]; rfl) ?_
          refine ⟨⟨by as_aux_lemma => kernel_rfl, by as_aux_lemma => kernel_rfl, by as_aux_lemma => kernel_rfl, by rfl⟩, fun _ _ _ h => h, ?_, hS, ?_⟩
          · intro W9 hW9; (try dsimp only at hW9); go_simp <;> (first | done | omega | (simp; done) | (simp; omega))
          simp only [Act.put, List.setIfInBounds_toArray]
          dsimp only [List.set_cons_zero, List.set_cons_succ]
          refine take_on (i := 11) (v := ?_) (by simp only [List.getElem?_toArray, List.getElem?_cons_succ, List.getElem?_cons_zero]; rfl) ?_
          rotate_left
          refine ⟨⟨by as_aux_lemma => kernel_rfl, by as_aux_lemma => kernel_rfl, by as_aux_lemma => kernel_rfl, by rfl⟩, fun _ _ _ h => h, ?_, hS, ?_⟩
          · intro W9 hW9; (try dsimp only at hW9); go_simp; try with_reducible rfl
          simp only [Act.put, List.setIfInBounds_toArray]
          dsimp only [List.set_cons_zero, List.set_cons_succ]
          refine take_on (i := 12) (v := ?_) (by simp only [List.getElem?_toArray, List.getElem?_cons_succ, List.getElem?_cons_zero]; rfl) ?_
          rotate_left
          refine ⟨⟨by as_aux_lemma => kernel_rfl, by as_aux_lemma => kernel_rfl, by as_aux_lemma => kernel_rfl, by rfl⟩, fun _ _ _ h => h, ?_, hS, ?_⟩
          · intro W9 hW9; (try dsimp only at hW9); go_simp; try with_reducible rfl
          simp only [Act.put, List.setIfInBounds_toArray]
          dsimp only [List.set_cons_zero, List.set_cons_succ]
          refine take_on (i := 13) (v := ?_) (by simp only [List.getElem?_toArray, List.getElem?_cons_succ, List.getElem?_cons_zero]; rfl) ?_
          rotate_left
          refine ⟨⟨by as_aux_lemma => kernel_rfl, by as_aux_lemma => kernel_rfl, by as_aux_lemma => kernel_rfl, by rfl⟩, fun _ _ _ h => h, ?_, hS, ?_⟩
          · intro W9 hW9; (try dsimp only at hW9); go_simp; try with_reducible rfl
          simp only [Act.put, List.setIfInBounds_toArray]
          dsimp only [List.set_cons_zero, List.set_cons_succ]
          refine take_on (i := 14) (v := ?_) (by simp only [List.getElem?_toArray, List.getElem?_cons_succ, List.getElem?_cons_zero]; rfl) ?_
          rotate_left
          refine ⟨⟨by as_aux_lemma => kernel_rfl, by as_aux_lemma => kernel_rfl, by as_aux_lemma => kernel_rfl, by rfl⟩, fun _ _ _ h => h, ?_, hS, ?_⟩
          · intro W9 hW9; (try dsimp only at hW9); go_simp; try with_reducible rfl
          simp only [Act.put, List.setIfInBounds_toArray]
          dsimp only [List.set_cons_zero, List.set_cons_succ]
          refine take_on (i := 15) (v := ?_) (by simp only [List.getElem?_toArray, List.getElem?_cons_succ, List.getElem?_cons_zero]; rfl) ?_
          rotate_left
          refine ⟨⟨by as_aux_lemma => kernel_rfl, by as_aux_lemma => kernel_rfl, by as_aux_lemma => kernel_rfl, by rfl⟩, fun _ _ _ h => h, ?_, hS, ?_⟩
          · intro W9 hW9; (try dsimp only at hW9); go_simp; try with_reducible rfl
          simp only [Act.put, List.setIfInBounds_toArray]
          dsimp only [List.set_cons_zero, List.set_cons_succ]
          refine take_on (i := 16) (v := ?_) (by simp only [List.getElem?_toArray, List.getElem?_cons_succ, List.getElem?_cons_zero]; rfl) ?_
          rotate_left
          refine ⟨⟨by as_aux_lemma => kernel_rfl, by as_aux_lemma => kernel_rfl, by as_aux_lemma => kernel_rfl, by rfl⟩, fun _ _ _ h => h, ?_, hS, ?_⟩
          · intro W9 hW9; (try dsimp only at hW9); go_simp; try with_reducible rfl
          simp only [Act.put, List.setIfInBounds_toArray]
          dsimp only [List.set_cons_zero, List.set_cons_succ]
          refine take_off (i := 17) (by simp only [List.getElem?_toArray, List.getElem?_cons_succ, List.getElem?_cons_zero]; rfl) ?_
          refine ⟨⟨by as_aux_lemma => kernel_rfl, by as_aux_lemma => kernel_rfl, by as_aux_lemma => kernel_rfl, by rfl⟩, fun _ _ _ h => h, hS, ?_⟩
          simp only [Act.put, List.setIfInBounds_toArray]
          dsimp only [List.set_cons_zero, List.set_cons_succ]
          refine take_off (i := 18) (by simp only [List.getElem?_toArray, List.getElem?_cons_succ, List.getElem?_cons_zero]; rfl) ?_
          refine ⟨⟨by as_aux_lemma => kernel_rfl, by as_aux_lemma => kernel_rfl, by as_aux_lemma => kernel_rfl, by rfl⟩, fun _ _ _ h => h, hS, ?_⟩
          simp only [Act.put, List.setIfInBounds_toArray]
          dsimp only [List.set_cons_zero, List.set_cons_succ]
          refine take_off (i := 19) (by simp only [List.getElem?_toArray, List.getElem?_cons_succ, List.getElem?_cons_zero]; rfl) ?_
          refine ⟨⟨by as_aux_lemma => kernel_rfl, by as_aux_lemma => kernel_rfl, by as_aux_lemma => kernel_rfl, by rfl⟩, fun _ _ _ h => h, hS, ?_⟩
          simp only [Act.put, List.setIfInBounds_toArray]
          dsimp only [List.set_cons_zero, List.set_cons_succ]
          refine take_off (i := 20) (by simp only [List.getElem?_toArray, List.getElem?_cons_succ, List.getElem?_cons_zero]; rfl) ?_
          refine ⟨⟨by as_aux_lemma => kernel_rfl, by as_aux_lemma => kernel_rfl, by as_aux_lemma => kernel_rfl, by rfl⟩, fun _ _ _ h => h, hS, ?_⟩
          simp only [Act.put, List.setIfInBounds_toArray]
          dsimp only [List.set_cons_zero, List.set_cons_succ]
          refine take_off (i := 21) (by simp only [List.getElem?_toArray, List.getElem?_cons_succ, List.getElem?_cons_zero]; rfl) ?_
          refine ⟨⟨by as_aux_lemma => kernel_rfl, by as_aux_lemma => kernel_rfl, by as_aux_lemma => kernel_rfl, by rfl⟩, fun _ _ _ h => h, hS, ?_⟩
          simp only [Act.put, List.setIfInBounds_toArray]
          dsimp only [List.set_cons_zero, List.set_cons_succ]
          refine take_off (i := 22) (by simp only [List.getElem?_toArray, List.getElem?_cons_succ, List.getElem?_cons_zero]; rfl) ?_
          refine ⟨⟨by as_aux_lemma => kernel_rfl, by as_aux_lemma => kernel_rfl, by as_aux_lemma => kernel_rfl, by rfl⟩, fun _ _ _ h => h, hS, ?_⟩
          simp only [Act.put, List.setIfInBounds_toArray]
          dsimp only [List.set_cons_zero, List.set_cons_succ]
          refine take_off (i := 23) (by simp only [List.getElem?_toArray, List.getElem?_cons_succ, List.getElem?_cons_zero]; rfl) ?_
          refine ⟨⟨by as_aux_lemma => kernel_rfl, by as_aux_lemma => kernel_rfl, by as_aux_lemma => kernel_rfl, by rfl⟩, fun _ _ _ h => h, hS, ?_⟩
          simp only [Act.put, List.setIfInBounds_toArray]
          dsimp only [List.set_cons_zero, List.set_cons_succ]
          refine take_on (i := 24) (v := ?_) (by simp only [List.getElem?_toArray, List.getElem?_cons_succ, List.getElem?_cons_zero]; rfl) ?_
          rotate_left
          refine ⟨⟨by as_aux_lemma => kernel_rfl, by as_aux_lemma => kernel_rfl, by as_aux_lemma => kernel_rfl, by rfl⟩, fun _ _ _ h => h, ?_, hS, ?_⟩
          · intro W9 hW9; (try dsimp only at hW9); go_simp; try with_reducible rfl
          simp only [Act.put, List.setIfInBounds_toArray]
          dsimp only [List.set_cons_zero, List.set_cons_succ]
          refine take_on (i := 25) (v := ?_) (by simp only [List.getElem?_toArray, List.getElem?_cons_succ, List.getElem?_cons_zero]; rfl) ?_
          rotate_left
          refine ⟨⟨by as_aux_lemma => kernel_rfl, by as_aux_lemma => kernel_rfl, by as_aux_lemma => kernel_rfl, by rfl⟩, fun _ _ _ h => h, ?_, hS, ?_⟩
          · intro W9 hW9; (try dsimp only at hW9); go_simp; try with_reducible rfl
          simp only [Act.put, List.setIfInBounds_toArray]
          dsimp only [List.set_cons_zero, List.set_cons_succ]
          refine take_on (i := 26) (v := ?_) (by simp only [List.getElem?_toArray, List.getElem?_cons_succ, List.getElem?_cons_zero]; rfl) ?_
          rotate_left
          refine ⟨⟨by as_aux_lemma => kernel_rfl, by as_aux_lemma => kernel_rfl, by as_aux_lemma => kernel_rfl, by rfl⟩, fun _ _ _ h => h, ?_, hS, ?_⟩
          · intro W9 hW9; (try dsimp only at hW9); go_simp; try with_reducible rfl
          simp only [Act.put, List.setIfInBounds_toArray]
          dsimp only [List.set_cons_zero, List.set_cons_succ]
          refine take_on (i := 27) (v := ?_) (by simp only [List.getElem?_toArray, List.getElem?_cons_succ, List.getElem?_cons_zero]; rfl) ?_
          rotate_left
          refine ⟨⟨by as_aux_lemma => kernel_rfl, by as_aux_lemma => kernel_rfl, by as_aux_lemma => kernel_rfl, by rfl⟩, fun _ _ _ h => h, ?_, hS, ?_⟩
          · intro W9 hW9; (try dsimp only at hW9); go_simp; try with_reducible rfl
          simp only [Act.put, List.setIfInBounds_toArray]
          dsimp only [List.set_cons_zero, List.set_cons_succ]
          refine take_on (i := 28) (v := ?_) (by simp only [List.getElem?_toArray, List.getElem?_cons_succ, List.getElem?_cons_zero]; rfl) ?_
          rotate_left
          refine ⟨⟨by as_aux_lemma => kernel_rfl, by as_aux_lemma => kernel_rfl, by as_aux_lemma => kernel_rfl, by rfl⟩, fun _ _ _ h => h, ?_, hS, ?_⟩
          · intro W9 hW9; (try dsimp only at hW9); go_simp; try with_reducible rfl
          simp only [Act.put, List.setIfInBounds_toArray]
          dsimp only [List.set_cons_zero, List.set_cons_succ]
          refine take_on (i := 29) (v := ?_) (by simp only [List.getElem?_toArray, List.getElem?_cons_succ, List.getElem?_cons_zero]; rfl) ?_
          rotate_left
          refine ⟨⟨by as_aux_lemma => kernel_rfl, by as_aux_lemma => kernel_rfl, by as_aux_lemma => kernel_rfl, by rfl⟩, fun _ _ _ h => h, ?_, hS, ?_⟩
          · intro W9 hW9; (try dsimp only at hW9); go_simp; try with_reducible rfl
          simp only [Act.put, List.setIfInBounds_toArray]
          dsimp only [List.set_cons_zero, List.set_cons_succ]
          refine take_on (i := 30) (v := ?_) (by simp only [List.getElem?_toArray, List.getElem?_cons_succ, List.getElem?_cons_zero]; rfl) ?_
          rotate_left
          refine ⟨⟨by as_aux_lemma => kernel_rfl, by as_aux_lemma => kernel_rfl, by as_aux_lemma => kernel_rfl, by rfl⟩, fun _ _ _ h => h, ?_, hS, ?_⟩
          · intro W9 hW9; (try dsimp only at hW9); go_simp; try with_reducible rfl
          simp only [Act.put, List.setIfInBounds_toArray]
          dsimp only [List.set_cons_zero, List.set_cons_succ]
          refine take_off (i := 31) (by simp only [List.getElem?_toArray, List.getElem?_cons_succ, List.getElem?_cons_zero]; rfl) ?_
          refine ⟨⟨by as_aux_lemma => kernel_rfl, by as_aux_lemma => kernel_rfl, by as_aux_lemma => kernel_rfl, by rfl⟩, fun _ _ _ h => h, hS, ?_⟩
          simp only [Act.put, List.setIfInBounds_toArray]
          dsimp only [List.set_cons_zero, List.set_cons_succ]
          refine take_off (i := 32) (by simp only [List.getElem?_toArray, List.getElem?_cons_succ, List.getElem?_cons_zero]; rfl) ?_
          refine ⟨⟨by as_aux_lemma => kernel_rfl, by as_aux_lemma => kernel_rfl, by as_aux_lemma => kernel_rfl, by rfl⟩, fun _ _ _ h => h, hS, ?_⟩
          simp only [Act.put, List.setIfInBounds_toArray]
          dsimp only [List.set_cons_zero, List.set_cons_succ]
          refine take_off (i := 33) (by simp only [List.getElem?_toArray, List.getElem?_cons_succ, List.getElem?_cons_zero]; rfl) ?_
          refine ⟨⟨by as_aux_lemma => kernel_rfl, by as_aux_lemma => kernel_rfl, by as_aux_lemma => kernel_rfl, by rfl⟩, fun _ _ _ h => h, hS, ?_⟩
          simp only [Act.put, List.setIfInBounds_toArray]
          dsimp only [List.set_cons_zero, List.set_cons_succ]
          refine take_off (i := 34) (by simp only [List.getElem?_toArray, List.getElem?_cons_succ, List.getElem?_cons_zero]; rfl) ?_
          refine ⟨⟨by as_aux_lemma => kernel_rfl, by as_aux_lemma => kernel_rfl, by as_aux_lemma => kernel_rfl, by rfl⟩, fun _ _ _ h => h, hS, ?_⟩
          simp only [Act.put, List.setIfInBounds_toArray]
          dsimp only [List.set_cons_zero, List.set_cons_succ]
          refine take_on (i := 35) (v := ?_) (by simp only [List.getElem?_toArray, List.getElem?_cons_succ, List.getElem?_cons_zero]; rfl) ?_
          rotate_left
          refine ⟨⟨by as_aux_lemma => kernel_rfl, by as_aux_lemma => kernel_rfl, by as_aux_lemma => kernel_rfl, by rfl⟩, fun _ _ _ h => h, ?_, hS, ?_⟩
          · intro W9 hW9; (try dsimp only at hW9); go_simp; try with_reducible rfl
          simp only [Act.put, List.setIfInBounds_toArray]
          dsimp only [List.set_cons_zero, List.set_cons_succ]
          refine take_on (i := 36) (v := ?_) (by simp only [List.getElem?_toArray, List.getElem?_cons_succ, List.getElem?_cons_zero]; rfl) ?_
          rotate_left
          refine ⟨⟨by as_aux_lemma => kernel_rfl, by as_aux_lemma => kernel_rfl, by as_aux_lemma => kernel_rfl, by rfl⟩, fun _ _ _ h => h, ?_, hS, ?_⟩
          · intro W9 hW9; (try dsimp only at hW9); go_simp; try with_reducible rfl
          simp only [Act.put, List.setIfInBounds_toArray]
          dsimp only [List.set_cons_zero, List.set_cons_succ]
          refine take_on (i := 37) (v := ?_) (by simp only [List.getElem?_toArray, List.getElem?_cons_succ, List.getElem?_cons_zero]; rfl) ?_
          rotate_left
          refine ⟨⟨by as_aux_lemma => kernel_rfl, by as_aux_lemma => kernel_rfl, by as_aux_lemma => kernel_rfl, by rfl⟩, fun _ _ _ h => h, ?_, hS, ?_⟩
          · intro W9 hW9; (try dsimp only at hW9); go_simp; try with_reducible rfl
          simp only [Act.put, List.setIfInBounds_toArray]
          dsimp only [List.set_cons_zero, List.set_cons_succ]
          refine take_on (i := 38) (v := ?_) (by simp only [List.getElem?_toArray, List.getElem?_cons_succ, List.getElem?_cons_zero]; rfl) ?_
          rotate_left
          refine ⟨⟨by as_aux_lemma => kernel_rfl, by as_aux_lemma => kernel_rfl, by as_aux_lemma => kernel_rfl, by rfl⟩, fun _ _ _ h => h, ?_, hS, ?_⟩
          · intro W9 hW9; (try dsimp only at hW9); go_simp; try with_reducible rfl
          simp only [Act.put, List.setIfInBounds_toArray]
          dsimp only [List.set_cons_zero, List.set_cons_succ]
          refine take_on (i := 39) (v := ?_) (by simp only [List.getElem?_toArray, List.getElem?_cons_succ, List.getElem?_cons_zero]; rfl) ?_
          rotate_left
          refine ⟨⟨by as_aux_lemma => kernel_rfl, by as_aux_lemma => kernel_rfl, by as_aux_lemma => kernel_rfl, by rfl⟩, fun _ _ _ h => h, ?_, hS, ?_⟩
          · intro W9 hW9; (try dsimp only at hW9); go_simp; try with_reducible rfl
          simp only [Act.put, List.setIfInBounds_toArray]
          dsimp only [List.set_cons_zero, List.set_cons_succ]
          refine take_on (i := 40) (v := ?_) (by simp only [List.getElem?_toArray, List.getElem?_cons_succ, List.getElem?_cons_zero]; rfl) ?_
          rotate_left
          refine ⟨⟨by as_aux_lemma => kernel_rfl, by as_aux_lemma => kernel_rfl, by as_aux_lemma => kernel_rfl, by rfl⟩, fun _ _ _ h => h, ?_, hS, ?_⟩
          · intro W9 hW9; (try dsimp only at hW9); go_simp; try with_reducible rfl
          simp only [Act.put, List.setIfInBounds_toArray]
          dsimp only [List.set_cons_zero, List.set_cons_succ]
          refine take_on (i := 41) (v := ?_) (by simp only [List.getElem?_toArray, List.getElem?_cons_succ, List.getElem?_cons_zero]; rfl) ?_
          rotate_left
          refine ⟨⟨by as_aux_lemma => kernel_rfl, by as_aux_lemma => kernel_rfl, by as_aux_lemma => kernel_rfl, by rfl⟩, fun _ _ _ h => h, ?_, hS, ?_⟩
          · intro W9 hW9; (try dsimp only at hW9); go_simp; try with_reducible rfl
          simp only [Act.put, List.setIfInBounds_toArray]
          dsimp only [List.set_cons_zero, List.set_cons_succ]
          refine take_off (i := 42) (by simp only [List.getElem?_toArray, List.getElem?_cons_succ, List.getElem?_cons_zero]; rfl) ?_
          refine ⟨⟨by as_aux_lemma => kernel_rfl, by as_aux_lemma => kernel_rfl, by as_aux_lemma => kernel_rfl, by rfl⟩, fun _ _ _ h => h, hS, ?_⟩
          simp only [Act.put, List.setIfInBounds_toArray]
          dsimp only [List.set_cons_zero, List.set_cons_succ]
          refine take_off (i := 43) (by simp only [List.getElem?_toArray, List.getElem?_cons_succ, List.getElem?_cons_zero]; rfl) ?_
          refine ⟨⟨by as_aux_lemma => kernel_rfl, by as_aux_lemma => kernel_rfl, by as_aux_lemma => kernel_rfl, by rfl⟩, fun _ _ _ h => h, hS, ?_⟩
          simp only [Act.put, List.setIfInBounds_toArray]
          dsimp only [List.set_cons_zero, List.set_cons_succ]
          refine take_off (i := 44) (by simp only [List.getElem?_toArray, List.getElem?_cons_succ, List.getElem?_cons_zero]; rfl) ?_
          refine ⟨⟨by as_aux_lemma => kernel_rfl, by as_aux_lemma => kernel_rfl, by as_aux_lemma => kernel_rfl, by rfl⟩, fun _ _ _ h => h, hS, ?_⟩
          simp only [Act.put, List.setIfInBounds_toArray]
          dsimp only [List.set_cons_zero, List.set_cons_succ]
          refine take_off (i := 45) (by simp only [List.getElem?_toArray, List.getElem?_cons_succ, List.getElem?_cons_zero]; rfl) ?_
          refine ⟨⟨by as_aux_lemma => kernel_rfl, by as_aux_lemma => kernel_rfl, by as_aux_lemma => kernel_rfl, by rfl⟩, fun _ _ _ h => h, hS, ?_⟩
          simp only [Act.put, List.setIfInBounds_toArray]
          dsimp only [List.set_cons_zero, List.set_cons_succ]
          refine take_off (i := 46) (by simp only [List.getElem?_toArray, List.getElem?_cons_succ, List.getElem?_cons_zero]; rfl) ?_
          refine ⟨⟨by as_aux_lemma => kernel_rfl, by as_aux_lemma => kernel_rfl, by as_aux_lemma => kernel_rfl, by rfl⟩, fun _ _ _ h => h, hS, ?_⟩
          simp only [Act.put, List.setIfInBounds_toArray]
          dsimp only [List.set_cons_zero, List.set_cons_succ]
          refine take_off (i := 47) (by simp only [List.getElem?_toArray, List.getElem?_cons_succ, List.getElem?_cons_zero]; rfl) ?_
          refine ⟨⟨by as_aux_lemma => kernel_rfl, by as_aux_lemma => kernel_rfl, by as_aux_lemma => kernel_rfl, by rfl⟩, fun _ _ _ h => h, hS, ?_⟩
          simp only [Act.put, List.setIfInBounds_toArray]
          dsimp only [List.set_cons_zero, List.set_cons_succ]
          refine take_off (i := 48) (by simp only [List.getElem?_toArray, List.getElem?_cons_succ, List.getElem?_cons_zero]; rfl) ?_
          refine ⟨⟨by as_aux_lemma => kernel_rfl, by as_aux_lemma => kernel_rfl, by as_aux_lemma => kernel_rfl, by rfl⟩, fun _ _ _ h => h, hS, ?_⟩
          simp only [Act.put, List.setIfInBounds_toArray]
          dsimp only [List.set_cons_zero, List.set_cons_succ]
          refine take_off (i := 49) (by simp only [List.getElem?_toArray, List.getElem?_cons_succ, List.getElem?_cons_zero]; rfl) ?_
          refine ⟨⟨by as_aux_lemma => kernel_rfl, by as_aux_lemma => kernel_rfl, by as_aux_lemma => kernel_rfl, by rfl⟩, fun _ _ _ h => h, hS, ?_⟩
          simp only [Act.put, List.setIfInBounds_toArray]
          dsimp only [List.set_cons_zero, List.set_cons_succ]
          refine take_on (i := 50) (v := ?_) (by simp only [List.getElem?_toArray, List.getElem?_cons_succ, List.getElem?_cons_zero]; rfl) ?_
          rotate_left
          refine ⟨⟨by as_aux_lemma => kernel_rfl, by as_aux_lemma => kernel_rfl, by as_aux_lemma => kernel_rfl, by rfl⟩, fun _ _ _ h => h, ?_, hS, ?_⟩
          · intro W9 hW9; (try dsimp only at hW9); go_simp; try with_reducible rfl
          simp only [Act.put, List.setIfInBounds_toArray]
          dsimp only [List.set_cons_zero, List.set_cons_succ]
          refine take_on (i := 51) (v := ?_) (by simp only [List.getElem?_toArray, List.getElem?_cons_succ, List.getElem?_cons_zero]; rfl) ?_
          rotate_left
          refine ⟨⟨by as_aux_lemma => kernel_rfl, by as_aux_lemma => kernel_rfl, by as_aux_lemma => kernel_rfl, by rfl⟩, fun _ _ _ h => h, ?_, hS, ?_⟩
          · intro W9 hW9; (try dsimp only at hW9); go_simp; try with_reducible rfl
          simp only [Act.put, List.setIfInBounds_toArray]
          dsimp only [List.set_cons_zero, List.set_cons_succ]
          refine take_on (i := 52) (v := ?_) (by simp only [List.getElem?_toArray, List.getElem?_cons_succ, List.getElem?_cons_zero]; rfl) ?_
          rotate_left
          refine ⟨⟨by as_aux_lemma => kernel_rfl, by as_aux_lemma => kernel_rfl, by as_aux_lemma => kernel_rfl, by rfl⟩, fun _ _ _ h => h, ?_, hS, ?_⟩
          · intro W9 hW9; (try dsimp only at hW9); go_simp; try with_reducible rfl
          simp only [Act.put, List.setIfInBounds_toArray]
          dsimp only [List.set_cons_zero, List.set_cons_succ]
          refine take_on (i := 53) (v := ?_) (by simp only [List.getElem?_toArray, List.getElem?_cons_succ, List.getElem?_cons_zero]; rfl) ?_
          rotate_left
          refine ⟨⟨by as_aux_lemma => kernel_rfl, by as_aux_lemma => kernel_rfl, by as_aux_lemma => kernel_rfl, by rfl⟩, fun _ _ _ h => h, ?_, hS, ?_⟩
          · intro W9 hW9; (try dsimp only at hW9); go_simp; try with_reducible rfl
          simp only [Act.put, List.setIfInBounds_toArray]
          dsimp only [List.set_cons_zero, List.set_cons_succ]
          refine take_on (i := 54) (v := ?_) (by simp only [List.getElem?_toArray, List.getElem?_cons_succ, List.getElem?_cons_zero]; rfl) ?_
          rotate_left
          refine ⟨⟨by as_aux_lemma => kernel_rfl, by as_aux_lemma => kernel_rfl, by as_aux_lemma => kernel_rfl, by rfl⟩, fun _ _ _ h => h, ?_, hS, ?_⟩
          · intro W9 hW9; (try dsimp only at hW9); go_simp; try with_reducible rfl
          simp only [Act.put, List.setIfInBounds_toArray]
          dsimp only [List.set_cons_zero, List.set_cons_succ]
          refine take_on (i := 55) (v := ?_) (by simp only [List.getElem?_toArray, List.getElem?_cons_succ, List.getElem?_cons_zero]; rfl) ?_
          rotate_left
          refine ⟨⟨by as_aux_lemma => kernel_rfl, by as_aux_lemma => kernel_rfl, by as_aux_lemma => kernel_rfl, by rfl⟩, fun _ _ _ h => h, ?_, hS, ?_⟩
          · intro W9 hW9; (try dsimp only at hW9); go_simp; try with_reducible rfl
          simp only [Act.put, List.setIfInBounds_toArray]
          dsimp only [List.set_cons_zero, List.set_cons_succ]
          refine take_on (i := 56) (v := ?_) (by simp only [List.getElem?_toArray, List.getElem?_cons_succ, List.getElem?_cons_zero]; rfl) ?_
          rotate_left
          refine ⟨⟨by as_aux_lemma => kernel_rfl, by as_aux_lemma => kernel_rfl, by as_aux_lemma => kernel_rfl, by rfl⟩, fun _ _ _ h => h, ?_, hS, ?_⟩
          · intro W9 hW9; (try dsimp only at hW9); go_simp; try with_reducible rfl
          simp only [Act.put, List.setIfInBounds_toArray]
          dsimp only [List.set_cons_zero, List.set_cons_succ]
          refine take_off (i := 57) (by simp only [List.getElem?_toArray, List.getElem?_cons_succ, List.getElem?_cons_zero]; rfl) ?_
          refine ⟨⟨by as_aux_lemma => kernel_rfl, by as_aux_lemma => kernel_rfl, by as_aux_lemma => kernel_rfl, by rfl⟩, fun _ _ _ h => h, hS, ?_⟩
          simp only [Act.put, List.setIfInBounds_toArray]
          dsimp only [List.set_cons_zero, List.set_cons_succ]
          refine take_off (i := 58) (by simp only [List.getElem?_toArray, List.getElem?_cons_succ, List.getElem?_cons_zero]; rfl) ?_
          refine ⟨⟨by as_aux_lemma => kernel_rfl, by as_aux_lemma => kernel_rfl, by as_aux_lemma => kernel_rfl, by rfl⟩, fun _ _ _ h => h, hS, ?_⟩
          simp only [Act.put, List.setIfInBounds_toArray]
          dsimp only [List.set_cons_zero, List.set_cons_succ]
          refine take_off (i := 59) (by simp only [List.getElem?_toArray, List.getElem?_cons_succ, List.getElem?_cons_zero]; rfl) ?_
          refine ⟨⟨by as_aux_lemma => kernel_rfl, by as_aux_lemma => kernel_rfl, by as_aux_lemma => kernel_rfl, by rfl⟩, fun _ _ _ h => h, hS, ?_⟩
          simp only [Act.put, List.setIfInBounds_toArray]
          dsimp only [List.set_cons_zero, List.set_cons_succ]
          refine take_off (i := 60) (by simp only [List.getElem?_toArray, List.getElem?_cons_succ, List.getElem?_cons_zero]; rfl) ?_
          refine ⟨⟨by as_aux_lemma => kernel_rfl, by as_aux_lemma => kernel_rfl, by as_aux_lemma => kernel_rfl, by rfl⟩, fun _ _ _ h => h, hS, ?_⟩
          simp only [Act.put, List.setIfInBounds_toArray]
          dsimp only [List.set_cons_zero, List.set_cons_succ]
          refine take_off (i := 61) (by simp only [List.getElem?_toArray, List.getElem?_cons_succ, List.getElem?_cons_zero]; rfl) ?_
          refine ⟨⟨by as_aux_lemma => kernel_rfl, by as_aux_lemma => kernel_rfl, by as_aux_lemma => kernel_rfl, by rfl⟩, fun _ _ _ h => h, hS, ?_⟩
          simp only [Act.put, List.setIfInBounds_toArray]
          dsimp only [List.set_cons_zero, List.set_cons_succ]
          refine take_off (i := 62) (by simp only [List.getElem?_toArray, List.getElem?_cons_succ, List.getElem?_cons_zero]; rfl) ?_
          refine ⟨⟨by as_aux_lemma => kernel_rfl, by as_aux_lemma => kernel_rfl, by as_aux_lemma => kernel_rfl, by rfl⟩, fun _ _ _ h => h, hS, ?_⟩
          simp only [Act.put, List.setIfInBounds_toArray]
          dsimp only [List.set_cons_zero, List.set_cons_succ]
          refine take_off (i := 63) (by simp only [List.getElem?_toArray, List.getElem?_cons_succ, List.getElem?_cons_zero]; rfl) ?_
          refine ⟨⟨by as_aux_lemma => kernel_rfl, by as_aux_lemma => kernel_rfl, by as_aux_lemma => kernel_rfl, by rfl⟩, fun _ _ _ h => h, hS, ?_⟩
          simp only [Act.put, List.setIfInBounds_toArray]
          dsimp only [List.set_cons_zero, List.set_cons_succ]
          refine take_off (i := 64) (by simp only [List.getElem?_toArray, List.getElem?_cons_succ, List.getElem?_cons_zero]; rfl) ?_
          refine ⟨⟨by as_aux_lemma => kernel_rfl, by as_aux_lemma => kernel_rfl, by as_aux_lemma => kernel_rfl, by rfl⟩, fun _ _ _ h => h, hS, ?_⟩
          simp only [Act.put, List.setIfInBounds_toArray]
          dsimp only [List.set_cons_zero, List.set_cons_succ]
          refine take_off (i := 65) (by simp only [List.getElem?_toArray, List.getElem?_cons_succ, List.getElem?_cons_zero]; rfl) ?_
          refine ⟨⟨by as_aux_lemma => kernel_rfl, by as_aux_lemma => kernel_rfl, by as_aux_lemma => kernel_rfl, by rfl⟩, fun _ _ _ h => h, hS, ?_⟩
          simp only [Act.put, List.setIfInBounds_toArray]
          dsimp only [List.set_cons_zero, List.set_cons_succ]
          refine take_off (i := 66) (by simp only [List.getElem?_toArray, List.getElem?_cons_succ, List.getElem?_cons_zero]; rfl) ?_
          refine ⟨⟨by as_aux_lemma => kernel_rfl, by as_aux_lemma => kernel_rfl, by as_aux_lemma => kernel_rfl, by rfl⟩, fun _ _ _ h => h, hS, ?_⟩
          simp only [Act.put, List.setIfInBounds_toArray]
          dsimp only [List.set_cons_zero, List.set_cons_succ]
          refine take_off (i := 67) (by simp only [List.getElem?_toArray, List.getElem?_cons_succ, List.getElem?_cons_zero]; rfl) ?_
          refine ⟨⟨by as_aux_lemma => kernel_rfl, by as_aux_lemma => kernel_rfl, by as_aux_lemma => kernel_rfl, by rfl⟩, fun _ _ _ h => h, hS, ?_⟩
          simp only [Act.put, List.setIfInBounds_toArray]
          dsimp only [List.set_cons_zero, List.set_cons_succ]
          refine take_off (i := 68) (by simp only [List.getElem?_toArray, List.getElem?_cons_succ, List.getElem?_cons_zero]; rfl) ?_
          refine ⟨⟨by as_aux_lemma => kernel_rfl, by as_aux_lemma => kernel_rfl, by as_aux_lemma => kernel_rfl, by rfl⟩, fun _ _ _ h => h, hS, ?_⟩
          simp only [Act.put, List.setIfInBounds_toArray]
          dsimp only [List.set_cons_zero, List.set_cons_succ]
          refine take_off (i := 69) (by simp only [List.getElem?_toArray, List.getElem?_cons_succ, List.getElem?_cons_zero]; rfl) ?_
          refine ⟨⟨by as_aux_lemma => kernel_rfl, by as_aux_lemma => kernel_rfl, by as_aux_lemma => kernel_rfl, by rfl⟩, fun _ _ _ h => h, hS, ?_⟩
          simp only [Act.put, List.setIfInBounds_toArray]
          dsimp only [List.set_cons_zero, List.set_cons_succ]
          refine take_on (i := 70) (v := ?_) (by simp only [List.getElem?_toArray, List.getElem?_cons_succ, List.getElem?_cons_zero]; rfl) ?_
          rotate_left
          refine ⟨⟨by as_aux_lemma => kernel_rfl, by as_aux_lemma => kernel_rfl, by as_aux_lemma => kernel_rfl, by rfl⟩, fun _ _ _ h => h, ?_, hS, ?_⟩
          · intro W9 hW9; (try dsimp only at hW9); go_simp; try with_reducible rfl
          simp only [Act.put, List.setIfInBounds_toArray]
          dsimp only [List.set_cons_zero, List.set_cons_succ]
          refine take_on (i := 71) (v := ?_) (by simp only [List.getElem?_toArray, List.getElem?_cons_succ, List.getElem?_cons_zero]; rfl) ?_
          rotate_left
          refine ⟨⟨by as_aux_lemma => kernel_rfl, by as_aux_lemma => kernel_rfl, by as_aux_lemma => kernel_rfl, by rfl⟩, fun _ _ _ h => h, ?_, hS, ?_⟩
          · intro W9 hW9; (try dsimp only at hW9); go_simp; try with_reducible rfl
          simp only [Act.put, List.setIfInBounds_toArray]
          dsimp only [List.set_cons_zero, List.set_cons_succ]
          refine take_on (i := 72) (v := ?_) (by simp only [List.getElem?_toArray, List.getElem?_cons_succ, List.getElem?_cons_zero]; rfl) ?_
          rotate_left
          refine ⟨⟨by as_aux_lemma => kernel_rfl, by as_aux_lemma => kernel_rfl, by as_aux_lemma => kernel_rfl, by rfl⟩, fun _ _ _ h => h, ?_, hS, ?_⟩
          · intro W9 hW9; (try dsimp only at hW9); go_simp; try with_reducible rfl
          simp only [Act.put, List.setIfInBounds_toArray]
          dsimp only [List.set_cons_zero, List.set_cons_succ]
          refine take_on (i := 73) (v := ?_) (by simp only [List.getElem?_toArray, List.getElem?_cons_succ, List.getElem?_cons_zero]; rfl) ?_
          rotate_left
          refine ⟨⟨by as_aux_lemma => kernel_rfl, by as_aux_lemma => kernel_rfl, by as_aux_lemma => kernel_rfl, by rfl⟩, fun _ _ _ h => h, ?_, hS, ?_⟩
          · intro W9 hW9; (try dsimp only at hW9); go_simp; try with_reducible rfl
          simp only [Act.put, List.setIfInBounds_toArray]
          dsimp only [List.set_cons_zero, List.set_cons_succ]
          refine take_on (i := 74) (v := ?_) (by simp only [List.getElem?_toArray, List.getElem?_cons_succ, List.getElem?_cons_zero]; rfl) ?_
          rotate_left
          refine ⟨⟨by as_aux_lemma => kernel_rfl, by as_aux_lemma => kernel_rfl, by as_aux_lemma => kernel_rfl, by rfl⟩, fun _ _ _ h => h, ?_, hS, ?_⟩
          · intro W9 hW9; (try dsimp only at hW9); go_simp; try with_reducible rfl
          simp only [Act.put, List.setIfInBounds_toArray]
          dsimp only [List.set_cons_zero, List.set_cons_succ]
          refine take_on (i := 75) (v := ?_) (by simp only [List.getElem?_toArray, List.getElem?_cons_succ, List.getElem?_cons_zero]; rfl) ?_
          rotate_left
          refine ⟨⟨by as_aux_lemma => kernel_rfl, by as_aux_lemma => kernel_rfl, by as_aux_lemma => kernel_rfl, by rfl⟩, fun _ _ _ h => h, ?_, hS, ?_⟩
          · intro W9 hW9; (try dsimp only at hW9); go_simp; try with_reducible rfl
          simp only [Act.put, List.setIfInBounds_toArray]
          dsimp only [List.set_cons_zero, List.set_cons_succ]
          refine take_on (i := 76) (v := ?_) (by simp only [List.getElem?_toArray, List.getElem?_cons_succ, List.getElem?_cons_zero]; rfl) ?_
          rotate_left
          refine ⟨⟨by as_aux_lemma => kernel_rfl, by as_aux_lemma => kernel_rfl, by as_aux_lemma => kernel_rfl, by rfl⟩, fun _ _ _ h => h, ?_, hS, ?_⟩
          · intro W9 hW9; (try dsimp only at hW9); go_simp; try with_reducible rfl
          simp only [Act.put, List.setIfInBounds_toArray]
          dsimp only [List.set_cons_zero, List.set_cons_succ]
          refine take_on (i := 77) (v := ?_) (by simp only [List.getElem?_toArray, List.getElem?_cons_succ, List.getElem?_cons_zero]; rfl) ?_
          rotate_left
          refine ⟨⟨by as_aux_lemma => kernel_rfl, by as_aux_lemma => kernel_rfl, by as_aux_lemma => kernel_rfl, by rfl⟩, fun _ _ _ h => h, ?_, hS, ?_⟩
          · intro W9 hW9; (try dsimp only at hW9); go_simp; try with_reducible rfl
          simp only [Act.put, List.setIfInBounds_toArray]
          dsimp only [List.set_cons_zero, List.set_cons_succ]
          refine take_on (i := 78) (v := ?_) (by simp only [List.getElem?_toArray, List.getElem?_cons_succ, List.getElem?_cons_zero]; rfl) ?_
          rotate_left
          refine ⟨⟨by as_aux_lemma => kernel_rfl, by as_aux_lemma => kernel_rfl, by as_aux_lemma => kernel_rfl, by rfl⟩, fun _ _ _ h => h, ?_, hS, ?_⟩
          · intro W9 hW9; (try dsimp only at hW9); go_simp; try with_reducible rfl
          simp only [Act.put, List.setIfInBounds_toArray]
          dsimp only [List.set_cons_zero, List.set_cons_succ]
          refine take_on (i := 79) (v := ?_) (by simp only [List.getElem?_toArray, List.getElem?_cons_succ, List.getElem?_cons_zero]; rfl) ?_
          rotate_left
          refine ⟨⟨by as_aux_lemma => kernel_rfl, by as_aux_lemma => kernel_rfl, by as_aux_lemma => kernel_rfl, by rfl⟩, fun _ _ _ h => h, ?_, hS, ?_⟩
          · intro W9 hW9; (try dsimp only at hW9); go_simp; try with_reducible rfl
          simp only [Act.put, List.setIfInBounds_toArray]
          dsimp only [List.set_cons_zero, List.set_cons_succ]
          refine take_on (i := 80) (v := ?_) (by simp only [List.getElem?_toArray, List.getElem?_cons_succ, List.getElem?_cons_zero]; rfl) ?_
          rotate_left
          refine ⟨⟨by as_aux_lemma => kernel_rfl, by as_aux_lemma => kernel_rfl, by as_aux_lemma => kernel_rfl, by rfl⟩, fun _ _ _ h => h, ?_, hS, ?_⟩
          · intro W9 hW9; (try dsimp only at hW9); go_simp; try with_reducible rfl
          simp only [Act.put, List.setIfInBounds_toArray]
          dsimp only [List.set_cons_zero, List.set_cons_succ]
          refine take_on (i := 81) (v := ?_) (by simp only [List.getElem?_toArray, List.getElem?_cons_succ, List.getElem?_cons_zero]; rfl) ?_
          rotate_left
          refine ⟨⟨by as_aux_lemma => kernel_rfl, by as_aux_lemma => kernel_rfl, by as_aux_lemma => kernel_rfl, by rfl⟩, fun _ _ _ h => h, ?_, hS, ?_⟩
          · intro W9 hW9; (try dsimp only at hW9); go_simp; try with_reducible rfl
          simp only [Act.put, List.setIfInBounds_toArray]
          dsimp only [List.set_cons_zero, List.set_cons_succ]
          refine take_on (i := 82) (v := ?_) (by simp only [List.getElem?_toArray, List.getElem?_cons_succ, List.getElem?_cons_zero]; rfl) ?_
          rotate_left
          refine ⟨⟨by as_aux_lemma => kernel_rfl, by as_aux_lemma => kernel_rfl, by as_aux_lemma => kernel_rfl, by rfl⟩, fun _ _ _ h => h, ?_, hS, ?_⟩
          · intro W9 hW9; (try dsimp only at hW9); go_simp; try with_reducible rfl
          simp only [Act.put, List.setIfInBounds_toArray]
          dsimp only [List.set_cons_zero, List.set_cons_succ]
          refine take_on (i := 83) (v := ?_) (by simp only [List.getElem?_toArray, List.getElem?_cons_succ, List.getElem?_cons_zero]; rfl) ?_
          rotate_left
          refine ⟨⟨by as_aux_lemma => kernel_rfl, by as_aux_lemma => kernel_rfl, by as_aux_lemma => kernel_rfl, by rfl⟩, fun _ _ _ h => h, ?_, hS, ?_⟩
          · intro W9 hW9; (try dsimp only at hW9); go_simp; try with_reducible rfl
          simp only [Act.put, List.setIfInBounds_toArray]
          dsimp only [List.set_cons_zero, List.set_cons_succ]
          refine take_on (i := 84) (v := ?_) (by simp only [List.getElem?_toArray, List.getElem?_cons_succ, List.getElem?_cons_zero]; rfl) ?_
          rotate_left
          refine ⟨⟨by as_aux_lemma => kernel_rfl, by as_aux_lemma => kernel_rfl, by as_aux_lemma => kernel_rfl, by rfl⟩, fun _ _ _ h => h, ?_, hS, ?_⟩
          · intro W9 hW9; (try dsimp only at hW9); go_simp; try with_reducible rfl
          simp only [Act.put, List.setIfInBounds_toArray]
          dsimp only [List.set_cons_zero, List.set_cons_succ]
          refine take_on (i := 85) (v := ?_) (by simp only [List.getElem?_toArray, List.getElem?_cons_succ, List.getElem?_cons_zero]; rfl) ?_
          rotate_left
          refine ⟨⟨by as_aux_lemma => kernel_rfl, by as_aux_lemma => kernel_rfl, by as_aux_lemma => kernel_rfl, by rfl⟩, fun _ _ _ h => h, ?_, hS, ?_⟩
          · intro W9 hW9; (try dsimp only at hW9); go_simp; try with_reducible rfl
          simp only [Act.put, List.setIfInBounds_toArray]
          dsimp only [List.set_cons_zero, List.set_cons_succ]
          refine take_on (i := 86) (v := ?_) (by simp only [List.getElem?_toArray, List.getElem?_cons_succ, List.getElem?_cons_zero]; rfl) ?_
          rotate_left
          refine ⟨⟨by as_aux_lemma => kernel_rfl, by as_aux_lemma => kernel_rfl, by as_aux_lemma => kernel_rfl, by rfl⟩, fun _ _ _ h => h, ?_, hS, ?_⟩
          · intro W9 hW9; (try dsimp only at hW9); go_simp; try with_reducible rfl
          simp only [Act.put, List.setIfInBounds_toArray]
          dsimp only [List.set_cons_zero, List.set_cons_succ]
          refine take_on (i := 87) (v := ?_) (by simp only [List.getElem?_toArray, List.getElem?_cons_succ, List.getElem?_cons_zero]; rfl) ?_
          rotate_left
          refine ⟨⟨by as_aux_lemma => kernel_rfl, by as_aux_lemma => kernel_rfl, by as_aux_lemma => kernel_rfl, by rfl⟩, fun _ _ _ h => h, ?_, hS, ?_⟩
          · intro W9 hW9; (try dsimp only at hW9); go_simp; try with_reducible rfl
          simp only [Act.put, List.setIfInBounds_toArray]
          dsimp only [List.set_cons_zero, List.set_cons_succ]
          refine take_on (i := 88) (v := ?_) (by simp only [List.getElem?_toArray, List.getElem?_cons_succ, List.getElem?_cons_zero]; rfl) ?_
          rotate_left
          refine ⟨⟨by as_aux_lemma => kernel_rfl, by as_aux_lemma => kernel_rfl, by as_aux_lemma => kernel_rfl, by rfl⟩, fun _ _ _ h => h, ?_, hS, ?_⟩
          · intro W9 hW9; (try dsimp only at hW9); go_simp; try with_reducible rfl
          simp only [Act.put, List.setIfInBounds_toArray]
          dsimp only [List.set_cons_zero, List.set_cons_succ]
          refine take_on (i := 89) (v := .bool false) (by simp only [List.getElem?_toArray, List.getElem?_cons_succ, List.getElem?_cons_zero]; rfl) ?_
          refine ⟨⟨by as_aux_lemma => kernel_rfl, by as_aux_lemma => kernel_rfl, by as_aux_lemma => kernel_rfl, by rfl⟩, fun _ _ _ h => h, ?_, hS, ?_⟩
          · intro W9 hW9; (try dsimp only at hW9); go_simp <;> (first | done | omega | (simp; done) | (simp; omega))
          simp only [Act.put, List.setIfInBounds_toArray]
          dsimp only [List.set_cons_zero, List.set_cons_succ]
          refine take_on (i := 90) (v := ?_) (by simp only [List.getElem?_toArray, List.getElem?_cons_succ, List.getElem?_cons_zero]; rfl) ?_
          rotate_left
          refine ⟨⟨by as_aux_lemma => kernel_rfl, by as_aux_lemma => kernel_rfl, by as_aux_lemma => kernel_rfl, by rfl⟩, fun _ _ _ h => h, ?_, hS, ?_⟩
          · intro W9 hW9; (try dsimp only at hW9); go_simp; try with_reducible rfl
          simp only [Act.put, List.setIfInBounds_toArray]
          dsimp only [List.set_cons_zero, List.set_cons_succ]
          refine take_on (i := 91) (v := ?_) (by simp only [List.getElem?_toArray, List.getElem?_cons_succ, List.getElem?_cons_zero]; rfl) ?_
          rotate_left
          refine ⟨⟨by as_aux_lemma => kernel_rfl, by as_aux_lemma => kernel_rfl, by as_aux_lemma => kernel_rfl, by rfl⟩, fun _ _ _ h => h, ?_, hS, ?_⟩
          · intro W9 hW9; (try dsimp only at hW9); go_simp; try with_reducible rfl
          simp only [Act.put, List.setIfInBounds_toArray]
          dsimp only [List.set_cons_zero, List.set_cons_succ]
          refine wpAnyH_done (by kernel_rfl) ?_ _
          go_wp2_with fail
          go_roundw
          case rel => exact ⟨k + 1, by omega, by go_num, k0k, k1k, (by (repeat (first | with_reducible assumption | with_reducible exact Below.refl _ _ | (with_reducible refine bel_next ?_ ?_ (by assumption)) | (with_reducible refine Below.alloc ?_ ?_ _) | (with_reducible refine Below.drew ?_) | (with_reducible refine below_drewN ?_ _) | (with_reducible refine Below.setCell ?_ ?_ _))) <;> (first | omega | (simp; done) | (simp; omega))), (by (repeat (first | with_reducible assumption | with_reducible exact Below.refl _ _ | (with_reducible refine bel_next ?_ ?_ (by assumption)) | (with_reducible refine Below.alloc ?_ ?_ _) | (with_reducible refine Below.drew ?_) | (with_reducible refine below_drewN ?_ _) | (with_reducible refine Below.setCell ?_ ?_ _))) <;> (first | omega | (simp; done) | (simp; omega)))⟩
          case measure => first | (simp [intOf]; done) | (simp [intOf]; omega)
      · as_aux_lemma =>
          obtain ⟨n1, rfl⟩ := Int.eq_ofNat_of_zero_le q1
          have c1x := (HQW.out.below hbg).elemC n1 (by rw [HEL.out]; omega)
          have n1b : (n1 : Int) < (gs.length : Int) := by omega
          have p1 := HPRE.out (n1 : Int) (by omega) (by omega)
          have b1 := at0_b (i := (n1 : Int)) HEB.out (by omega) (by omega)
          obtain ⟨x, hx⟩ : ∃ x, x = at0 EW (n1 : Int) := ⟨_, rfl⟩
          rw [← hx] at c1x p1 b1
          obtain ⟨b1a, b1b⟩ := b1
          obtain rfl : v = 1 - x := by rw [HV.out]; simp [gval, p1]
          have hwx : IntKind.i64.wrap (1 - x) = 1 - x := wrap_i64_id (by omega) (by omega)
          clear p1 hx
          have e1a := cell_al (o := .cells #[.int .i64 5, .int .i64 (n1 : Int), .int .i64 0] 50) e1
          have c1xa := cell_al (o := .cells #[.int .i64 5, .int .i64 (n1 : Int), .int .i64 0] 50) c1x
          have k0a := cell_al (o := .cells #[.int .i64 5, .int .i64 (n1 : Int), .int .i64 0] 50) k0
          have k1a := cell_al (o := .cells #[.int .i64 5, .int .i64 (n1 : Int), .int .i64 0] 50) k1
          have nv0 : ¬ (1 - x) < (0 : Int) := by omega
          have nv1 : ¬ (1 : Int) < (1 - x) := by omega
          go_wp2_with fail
          (try simp only [List.append_eq, List.cons_append, List.nil_append])
          refine wp_region_held_drew (S := fun w' => w'.cell? ⟨wr.heap.size, 0, none⟩ = some (.int .i64 5) ∧ w'.cell? ⟨wr.heap.size, 1, none⟩ = some (.int .i64 (n1 : Int)) ∧ w'.cell? ⟨wr.heap.size, 2, none⟩ = some (.int .i64 0) ∧ w'.cell? ⟨bw, fw + n1, none⟩ = some (.int .i64 (x)) ∧ w'.cell? ⟨w1.heap.size, 0, none⟩ = some (.slice (some ⟨g1, 0, none⟩) gs.length c1) ∧ w'.cell? ⟨w1.heap.size, 1, none⟩ = some (.slice (some ⟨g2, 0, none⟩) os.length c2)) (by kernel_rfl) ?_ (fun hS => ?_)
          · first | go_keep | (dsimp only; go_keep)
          refine take_on (i := 0) (v := ?_) (by simp only [List.getElem?_toArray, List.getElem?_cons_succ, List.getElem?_cons_zero]; rfl) ?_
          rotate_left
          refine ⟨⟨by as_aux_lemma => kernel_rfl, by as_aux_lemma => kernel_rfl, by as_aux_lemma => kernel_rfl, by rfl⟩, fun _ _ _ h => h, ?_, hS, ?_⟩
          · intro W9 hW9; (try dsimp only at hW9); go_simp; try with_reducible rfl
          simp only [Act.put, List.setIfInBounds_toArray]
          dsimp only [List.set_cons_zero, List.set_cons_succ]
          refine take_on (i := 1) (v := ?_) (by simp only [List.getElem?_toArray, List.getElem?_cons_succ, List.getElem?_cons_zero]; rfl) ?_
          rotate_left
          refine ⟨⟨by as_aux_lemma => kernel_rfl, by as_aux_lemma => kernel_rfl, by as_aux_lemma => kernel_rfl, by rfl⟩, fun _ _ _ h => h, ?_, hS, ?_⟩
          · intro W9 hW9; (try dsimp only at hW9); go_simp; try with_reducible rfl
          simp only [Act.put, List.setIfInBounds_toArray]
          dsimp only [List.set_cons_zero, List.set_cons_succ]
          refine wpAnyH_ready (rs := [2]) (by kernel_rfl) (by simp) ?_
          refine AllReadyH.cons (by simp only [List.getElem?_toArray, List.getElem?_cons_succ, List.getElem?_cons_zero]; rfl) (fun K hK => ?_) AllReadyH.nil
          go_simp
          go_at_call 46; refine (iGateOk_any 5 (n1 : Int) 0 (k : Int) _).mono ?_; rintro e v3 ⟨rfl, hv3⟩; rw [HGO.out]; have zv := hv3.size; (try simp at zv); have e1k := bel_keeps hv3 e1a; have c1xk := bel_keeps hv3 c1xa; have k0k := bel_keeps hv3 k0a; have k1k := bel_keeps hv3 k1a; have g0k := bel_keeps hv3 (b := wr.heap.size) (o := 0) (v := .int .i64 5) (by first | (go_simp; done) | assumption); have g1k := bel_keeps hv3 (b := wr.heap.size) (o := 1) (v := .int .i64 (n1 : Int)) (by first | (go_simp; done) | assumption); have g2k := bel_keeps hv3 (b := wr.heap.size) (o := 2) (v := .int .i64 0) (by first | (go_simp; done) | assumption)
          go_wp2_with fail
          refine hK.out _ _ ?_ (fun hS => ?_)
          · first | go_keep | (dsimp only; go_keep)
          clear hK K
          (try simp only [Act.put, List.setIfInBounds_toArray])
          (try dsimp only [List.set_cons_zero, List.set_cons_succ])
          refine take_on (i := 3) (v := ?_) (by simp only [List.getElem?_toArray, List.getElem?_cons_succ, List.getElem?_cons_zero]; rfl) ?_
          rotate_left
          refine ⟨⟨by as_aux_lemma => kernel_rfl, by as_aux_lemma => kernel_rfl, by as_aux_lemma => kernel_rfl, by rfl⟩, fun _ _ _ h => h, ?_, hS, ?_⟩
          · intro W9 hW9; (try dsimp only at hW9); go_simp; try with_reducible rfl
          simp only [Act.put, List.setIfInBounds_toArray]
          dsimp only [List.set_cons_zero, List.set_cons_succ]
          refine take_on (i := 4) (v := ?_) (by simp only [List.getElem?_toArray, List.getElem?_cons_succ, List.getElem?_cons_zero]; rfl) ?_
          rotate_left
          refine ⟨⟨by as_aux_lemma => kernel_rfl, by as_aux_lemma => kernel_rfl, by as_aux_lemma => kernel_rfl, by rfl⟩, fun _ _ _ h => h, ?_, hS, ?_⟩
          · intro W9 hW9; (try dsimp only at hW9); go_simp; try with_reducible rfl
          simp only [Act.put, List.setIfInBounds_toArray]
          dsimp only [List.set_cons_zero, List.set_cons_succ]
          refine take_on (i := 5) (v := ?_) (by simp only [List.getElem?_toArray, List.getElem?_cons_succ, List.getElem?_cons_zero]; rfl) ?_
          rotate_left
          refine ⟨⟨by as_aux_lemma => kernel_rfl, by as_aux_lemma => kernel_rfl, by as_aux_lemma => kernel_rfl, by rfl⟩, fun _ _ _ h => h, ?_, hS, ?_⟩
          · intro W9 hW9; (try dsimp only at hW9); go_simp; try with_reducible rfl
          simp only [Act.put, List.setIfInBounds_toArray]
          dsimp only [List.set_cons_zero, List.set_cons_succ]
          refine take_on (i := 6) (v := .bool false) (by simp only [List.getElem?_toArray, List.getElem?_cons_succ, List.getElem?_cons_zero]; rfl) ?_
          refine ⟨⟨by as_aux_lemma => kernel_rfl, by as_aux_lemma => kernel_rfl, by as_aux_lemma => kernel_rfl, by rfl⟩, fun _ _ _ h => h, ?_, hS, ?_⟩
          · intro W9 hW9; (try dsimp only at hW9); go_simp <;> (first | done | omega | (simp; done) | (simp; omega))
          simp only [Act.put, List.setIfInBounds_toArray]
          dsimp only [List.set_cons_zero, List.set_cons_succ]
          refine take_on (i := 7) (v := ?_) (by simp only [List.getElem?_toArray, List.getElem?_cons_succ, List.getElem?_cons_zero]; rfl) ?_
          rotate_left
          refine ⟨⟨by as_aux_lemma => kernel_rfl, by as_aux_lemma => kernel_rfl, by as_aux_lemma => kernel_rfl, by rfl⟩, fun _ _ _ h => h, ?_, hS, ?_⟩
          · intro W9 hW9; (try dsimp only at hW9); go_simp; try with_reducible rfl
          simp only [Act.put, List.setIfInBounds_toArray]
          dsimp only [List.set_cons_zero, List.set_cons_succ]
          refine take_on (i := 8) (v := ?_) (by simp only [List.getElem?_toArray, List.getElem?_cons_succ, List.getElem?_cons_zero]; rfl) ?_
          rotate_left
          refine ⟨⟨by as_aux_lemma => kernel_rfl, by as_aux_lemma => kernel_rfl, by as_aux_lemma => kernel_rfl, by rfl⟩, fun _ _ _ h => h, ?_, hS, ?_⟩
          · intro W9 hW9; (try dsimp only at hW9); go_simp; try with_reducible rfl
          simp only [Act.put, List.setIfInBounds_toArray]
          dsimp only [List.set_cons_zero, List.set_cons_succ]
          refine take_on (i := 9) (v := ?_) (by simp only [List.getElem?_toArray, List.getElem?_cons_succ, List.getElem?_cons_zero]; rfl) ?_
          rotate_left
          refine ⟨⟨by as_aux_lemma => kernel_rfl, by as_aux_lemma => kernel_rfl, by as_aux_lemma => kernel_rfl, by rfl⟩, fun _ _ _ h => h, ?_, hS, ?_⟩
          · intro W9 hW9; (try dsimp only at hW9); go_simp; try with_reducible rfl
          simp only [Act.put, List.setIfInBounds_toArray]
          dsimp only [List.set_cons_zero, List.set_cons_succ]
          refine take_on (i := 10) (v := .bool false) (by simp only [List.getElem?_toArray, List.getElem?_cons_succ, List.getElem?_cons_zero]; rfl) ?_
          refine ⟨⟨by as_aux_lemma => kernel_rfl, by as_aux_lemma => kernel_rfl, by as_aux_lemma => kernel_rfl, by rfl⟩, fun _ _ _ h => h, ?_, hS, ?_⟩
          · intro W9 hW9; (try dsimp only at hW9); go_simp <;> (first | done | omega | (simp; done) | (simp; omega))
          simp only [Act.put, List.setIfInBounds_toArray]
          dsimp only [List.set_cons_zero, List.set_cons_succ]
          refine take_on (i := 11) (v := ?_) (by simp only [List.getElem?_toArray, List.getElem?_cons_succ, List.getElem?_cons_zero]; rfl) ?_
          rotate_left
          refine ⟨⟨by as_aux_lemma => kernel_rfl, by as_aux_lemma => kernel_rfl, by as_aux_lemma => kernel_rfl, by rfl⟩, fun _ _ _ h => h, ?_, hS, ?_⟩
          · intro W9 hW9; (try dsimp only at hW9); go_simp; try with_reducible rfl
          simp only [Act.put, List.setIfInBounds_toArray]
          dsimp only [List.set_cons_zero, List.set_cons_succ]
          refine take_on (i := 12) (v := ?_) (by simp only [List.getElem?_toArray, List.getElem?_cons_succ, List.getElem?_cons_zero]; rfl) ?_
          rotate_left
          refine ⟨⟨by as_aux_lemma => kernel_rfl, by as_aux_lemma => kernel_rfl, by as_aux_lemma => kernel_rfl, by rfl⟩, fun _ _ _ h => h, ?_, hS, ?_⟩
          · intro W9 hW9; (try dsimp only at hW9); go_simp; try with_reducible rfl
          simp only [Act.put, List.setIfInBounds_toArray]
          dsimp only [List.set_cons_zero, List.set_cons_succ]
          refine take_on (i := 13) (v := ?_) (by simp only [List.getElem?_toArray, List.getElem?_cons_succ, List.getElem?_cons_zero]; rfl) ?_
          rotate_left
          refine ⟨⟨by as_aux_lemma => kernel_rfl, by as_aux_lemma => kernel_rfl, by as_aux_lemma => kernel_rfl, by rfl⟩, fun _ _ _ h => h, ?_, hS, ?_⟩
          · intro W9 hW9; (try dsimp only at hW9); go_simp; try with_reducible rfl
          simp only [Act.put, List.setIfInBounds_toArray]
          dsimp only [List.set_cons_zero, List.set_cons_succ]
          refine take_on (i := 14) (v := ?_) (by simp only [List.getElem?_toArray, List.getElem?_cons_succ, List.getElem?_cons_zero]; rfl) ?_
          rotate_left
          refine ⟨⟨by as_aux_lemma => kernel_rfl, by as_aux_lemma => kernel_rfl, by as_aux_lemma => kernel_rfl, by rfl⟩, fun _ _ _ h => h, ?_, hS, ?_⟩
          · intro W9 hW9; (try dsimp only at hW9); go_simp; try with_reducible rfl
          simp only [Act.put, List.setIfInBounds_toArray]
          dsimp only [List.set_cons_zero, List.set_cons_succ]
          refine take_on (i := 15) (v := ?_) (by simp only [List.getElem?_toArray, List.getElem?_cons_succ, List.getElem?_cons_zero]; rfl) ?_
          rotate_left
          refine ⟨⟨by as_aux_lemma => kernel_rfl, by as_aux_lemma => kernel_rfl, by as_aux_lemma => kernel_rfl, by rfl⟩, fun _ _ _ h => h, ?_, hS, ?_⟩
          · intro W9 hW9; (try dsimp only at hW9); go_simp; try with_reducible rfl
          simp only [Act.put, List.setIfInBounds_toArray]
          dsimp only [List.set_cons_zero, List.set_cons_succ]
          refine take_on (i := 16) (v := ?_) (by simp only [List.getElem?_toArray, List.getElem?_cons_succ, List.getElem?_cons_zero]; rfl) ?_
          rotate_left
          refine ⟨⟨by as_aux_lemma => kernel_rfl, by as_aux_lemma => kernel_rfl, by as_aux_lemma => kernel_rfl, by rfl⟩, fun _ _ _ h => h, ?_, hS, ?_⟩
          · intro W9 hW9; (try dsimp only at hW9); go_simp; try with_reducible rfl
          simp only [Act.put, List.setIfInBounds_toArray]
          dsimp only [List.set_cons_zero, List.set_cons_succ]
          refine take_off (i := 17) (by simp only [List.getElem?_toArray, List.getElem?_cons_succ, List.getElem?_cons_zero]; rfl) ?_
          refine ⟨⟨by as_aux_lemma => kernel_rfl, by as_aux_lemma => kernel_rfl, by as_aux_lemma => kernel_rfl, by rfl⟩, fun _ _ _ h => h, hS, ?_⟩
          simp only [Act.put, List.setIfInBounds_toArray]
          dsimp only [List.set_cons_zero, List.set_cons_succ]
          refine take_off (i := 18) (by simp only [List.getElem?_toArray, List.getElem?_cons_succ, List.getElem?_cons_zero]; rfl) ?_
          refine ⟨⟨by as_aux_lemma => kernel_rfl, by as_aux_lemma => kernel_rfl, by as_aux_lemma => kernel_rfl, by rfl⟩, fun _ _ _ h => h, hS, ?_⟩
          simp only [Act.put, List.setIfInBounds_toArray]
          dsimp only [List.set_cons_zero, List.set_cons_succ]
          refine take_off (i := 19) (by simp only [List.getElem?_toArray, List.getElem?_cons_succ, List.getElem?_cons_zero]; rfl) ?_
          refine ⟨⟨by as_aux_lemma => kernel_rfl, by as_aux_lemma => kernel_rfl, by as_aux_lemma => kernel_rfl, by rfl⟩, fun _ _ _ h => h, hS, ?_⟩
          simp only [Act.put, List.setIfInBounds_toArray]
          dsimp only [List.set_cons_zero, List.set_cons_succ]
          refine take_off (i := 20) (by simp only [List.getElem?_toArray, List.getElem?_cons_succ, List.getElem?_cons_zero]; rfl) ?_
          refine ⟨⟨by as_aux_lemma => kernel_rfl, by as_aux_lemma => kernel_rfl, by as_aux_lemma => kernel_rfl, by rfl⟩, fun _ _ _ h => h, hS, ?_⟩
          simp only [Act.put, List.setIfInBounds_toArray]
          dsimp only [List.set_cons_zero, List.set_cons_succ]
          refine take_off (i := 21) (by simp only [List.getElem?_toArray, List.getElem?_cons_succ, List.getElem?_cons_zero]; rfl) ?_
          refine ⟨⟨by as_aux_lemma => kernel_rfl, by as_aux_lemma => kernel_rfl, by as_aux_lemma => kernel_rfl, by rfl⟩, fun _ _ _ h => h, hS, ?_⟩
          simp only [Act.put, List.setIfInBounds_toArray]
          dsimp only [List.set_cons_zero, List.set_cons_succ]
          refine take_off (i := 22) (by simp only [List.getElem?_toArray, List.getElem?_cons_succ, List.getElem?_cons_zero]; rfl) ?_
          refine ⟨⟨by as_aux_lemma => kernel_rfl, by as_aux_lemma => kernel_rfl, by as_aux_lemma => kernel_rfl, by rfl⟩, fun _ _ _ h => h, hS, ?_⟩
          simp only [Act.put, List.setIfInBounds_toArray]
          dsimp only [List.set_cons_zero, List.set_cons_succ]
          refine take_off (i := 23) (by simp only [List.getElem?_toArray, List.getElem?_cons_succ, List.getElem?_cons_zero]; rfl) ?_
          refine ⟨⟨by as_aux_lemma => kernel_rfl, by as_aux_lemma => kernel_rfl, by as_aux_lemma => kernel_rfl, by rfl⟩, fun _ _ _ h => h, hS, ?_⟩
          simp only [Act.put, List.setIfInBounds_toArray]
          dsimp only [List.set_cons_zero, List.set_cons_succ]
          refine take_on (i := 24) (v := ?_) (by simp only [List.getElem?_toArray, List.getElem?_cons_succ, List.getElem?_cons_zero]; rfl) ?_
          rotate_left
          refine ⟨⟨by as_aux_lemma => kernel_rfl, by as_aux_lemma => kernel_rfl, by as_aux_lemma => kernel_rfl, by rfl⟩, fun _ _ _ h => h, ?_, hS, ?_⟩
          · intro W9 hW9; (try dsimp only at hW9); go_simp; try with_reducible rfl
          simp only [Act.put, List.setIfInBounds_toArray]
          dsimp only [List.set_cons_zero, List.set_cons_succ]
          refine take_on (i := 25) (v := ?_) (by simp only [List.getElem?_toArray, List.getElem?_cons_succ, List.getElem?_cons_zero]; rfl) ?_
          rotate_left
          refine ⟨⟨by as_aux_lemma => kernel_rfl, by as_aux_lemma => kernel_rfl, by as_aux_lemma => kernel_rfl, by rfl⟩, fun _ _ _ h => h, ?_, hS, ?_⟩
          · intro W9 hW9; (try dsimp only at hW9); go_simp; try with_reducible rfl
          simp only [Act.put, List.setIfInBounds_toArray]
          dsimp only [List.set_cons_zero, List.set_cons_succ]
          refine take_on (i := 26) (v := ?_) (by simp only [List.getElem?_toArray, List.getElem?_cons_succ, List.getElem?_cons_zero]; rfl) ?_
          rotate_left
          refine ⟨⟨by as_aux_lemma => kernel_rfl, by as_aux_lemma => kernel_rfl, by as_aux_lemma => kernel_rfl, by rfl⟩, fun _ _ _ h => h, ?_, hS, ?_⟩
          · intro W9 hW9; (try dsimp only at hW9); go_simp; try with_reducible rfl
          simp only [Act.put, List.setIfInBounds_toArray]
          dsimp only [List.set_cons_zero, List.set_cons_succ]
          refine take_on (i := 27) (v := ?_) (by simp only [List.getElem?_toArray, List.getElem?_cons_succ, List.getElem?_cons_zero]; rfl) ?_
          rotate_left
          refine ⟨⟨by as_aux_lemma => kernel_rfl, by as_aux_lemma => kernel_rfl, by as_aux_lemma => kernel_rfl, by rfl⟩, fun _ _ _ h => h, ?_, hS, ?_⟩
          · intro W9 hW9; (try dsimp only at hW9); go_simp; try with_reducible rfl
          simp only [Act.put, List.setIfInBounds_toArray]
          dsimp only [List.set_cons_zero, List.set_cons_succ]
          refine take_on (i := 28) (v := ?_) (by simp only [List.getElem?_toArray, List.getElem?_cons_succ, List.getElem?_cons_zero]; rfl) ?_
          rotate_left
          refine ⟨⟨by as_aux_lemma => kernel_rfl, by as_aux_lemma => kernel_rfl, by as_aux_lemma => kernel_rfl, by rfl⟩, fun _ _ _ h => h, ?_, hS, ?_⟩
          · intro W9 hW9; (try dsimp only at hW9); go_simp; try with_reducible rfl
          simp only [Act.put, List.setIfInBounds_toArray]
          dsimp only [List.set_cons_zero, List.set_cons_succ]
          refine take_on (i := 29) (v := ?_) (by simp only [List.getElem?_toArray, List.getElem?_cons_succ, List.getElem?_cons_zero]; rfl) ?_
          rotate_left
          refine ⟨⟨by as_aux_lemma => kernel_rfl, by as_aux_lemma => kernel_rfl, by as_aux_lemma => kernel_rfl, by rfl⟩, fun _ _ _ h => h, ?_, hS, ?_⟩
          · intro W9 hW9; (try dsimp only at hW9); go_simp; try with_reducible rfl
          simp only [Act.put, List.setIfInBounds_toArray]
          dsimp only [List.set_cons_zero, List.set_cons_succ]
          refine take_on (i := 30) (v := ?_) (by simp only [List.getElem?_toArray, List.getElem?_cons_succ, List.getElem?_cons_zero]; rfl) ?_
          rotate_left
          refine ⟨⟨by as_aux_lemma => kernel_rfl, by as_aux_lemma => kernel_rfl, by as_aux_lemma => kernel_rfl, by rfl⟩, fun _ _ _ h => h, ?_, hS, ?_⟩
          · intro W9 hW9; (try dsimp only at hW9); go_simp; try with_reducible rfl
          simp only [Act.put, List.setIfInBounds_toArray]
          dsimp only [List.set_cons_zero, List.set_cons_succ]
          refine take_off (i := 31) (by simp only [List.getElem?_toArray, List.getElem?_cons_succ, List.getElem?_cons_zero]; rfl) ?_
          refine ⟨⟨by as_aux_lemma => kernel_rfl, by as_aux_lemma => kernel_rfl, by as_aux_lemma => kernel_rfl, by rfl⟩, fun _ _ _ h => h, hS, ?_⟩
          simp only [Act.put, List.setIfInBounds_toArray]
          dsimp only [List.set_cons_zero, List.set_cons_succ]
          refine take_off (i := 32) (by simp only [List.getElem?_toArray, List.getElem?_cons_succ, List.getElem?_cons_zero]; rfl) ?_
          refine ⟨⟨by as_aux_lemma => kernel_rfl, by as_aux_lemma => kernel_rfl, by as_aux_lemma => kernel_rfl, by rfl⟩, fun _ _ _ h => h, hS, ?_⟩
          simp only [Act.put, List.setIfInBounds_toArray]
          dsimp only [List.set_cons_zero, List.set_cons_succ]
          refine take_off (i := 33) (by simp only [List.getElem?_toArray, List.getElem?_cons_succ, List.getElem?_cons_zero]; rfl) ?_
          refine ⟨⟨by as_aux_lemma => kernel_rfl, by as_aux_lemma => kernel_rfl, by as_aux_lemma => kernel_rfl, by rfl⟩, fun _ _ _ h => h, hS, ?_⟩
          simp only [Act.put, List.setIfInBounds_toArray]
          dsimp only [List.set_cons_zero, List.set_cons_succ]
          refine take_off (i := 34) (by simp only [List.getElem?_toArray, List.getElem?_cons_succ, List.getElem?_cons_zero]; rfl) ?_
          refine ⟨⟨by as_aux_lemma => kernel_rfl, by as_aux_lemma => kernel_rfl, by as_aux_lemma => kernel_rfl, by rfl⟩, fun _ _ _ h => h, hS, ?_⟩
          simp only [Act.put, List.setIfInBounds_toArray]
          dsimp only [List.set_cons_zero, List.set_cons_succ]
          refine take_on (i := 35) (v := ?_) (by simp only [List.getElem?_toArray, List.getElem?_cons_succ, List.getElem?_cons_zero]; rfl) ?_
          rotate_left
          refine ⟨⟨by as_aux_lemma => kernel_rfl, by as_aux_lemma => kernel_rfl, by as_aux_lemma => kernel_rfl, by rfl⟩, fun _ _ _ h => h, ?_, hS, ?_⟩
          · intro W9 hW9; (try dsimp only at hW9); go_simp; try with_reducible rfl
          simp only [Act.put, List.setIfInBounds_toArray]
          dsimp only [List.set_cons_zero, List.set_cons_succ]
          refine take_on (i := 36) (v := ?_) (by simp only [List.getElem?_toArray, List.getElem?_cons_succ, List.getElem?_cons_zero]; rfl) ?_
          rotate_left
          refine ⟨⟨by as_aux_lemma => kernel_rfl, by as_aux_lemma => kernel_rfl, by as_aux_lemma => kernel_rfl, by rfl⟩, fun _ _ _ h => h, ?_, hS, ?_⟩
          · intro W9 hW9; (try dsimp only at hW9); go_simp; try with_reducible rfl
          simp only [Act.put, List.setIfInBounds_toArray]
          dsimp only [List.set_cons_zero, List.set_cons_succ]
          refine take_on (i := 37) (v := ?_) (by simp only [List.getElem?_toArray, List.getElem?_cons_succ, List.getElem?_cons_zero]; rfl) ?_
          rotate_left
          refine ⟨⟨by as_aux_lemma => kernel_rfl, by as_aux_lemma => kernel_rfl, by as_aux_lemma => kernel_rfl, by rfl⟩, fun _ _ _ h => h, ?_, hS, ?_⟩
          · intro W9 hW9; (try dsimp only at hW9); go_simp; try with_reducible rfl
          simp only [Act.put, List.setIfInBounds_toArray]
          dsimp only [List.set_cons_zero, List.set_cons_succ]
          refine take_on (i := 38) (v := ?_) (by simp only [List.getElem?_toArray, List.getElem?_cons_succ, List.getElem?_cons_zero]; rfl) ?_
          rotate_left
          refine ⟨⟨by as_aux_lemma => kernel_rfl, by as_aux_lemma => kernel_rfl, by as_aux_lemma => kernel_rfl, by rfl⟩, fun _ _ _ h => h, ?_, hS, ?_⟩
          · intro W9 hW9; (try dsimp only at hW9); go_simp; try with_reducible rfl
          simp only [Act.put, List.setIfInBounds_toArray]
          dsimp only [List.set_cons_zero, List.set_cons_succ]
          refine take_on (i := 39) (v := ?_) (by simp only [List.getElem?_toArray, List.getElem?_cons_succ, List.getElem?_cons_zero]; rfl) ?_
          rotate_left
          refine ⟨⟨by as_aux_lemma => kernel_rfl, by as_aux_lemma => kernel_rfl, by as_aux_lemma => kernel_rfl, by rfl⟩, fun _ _ _ h => h, ?_, hS, ?_⟩
          · intro W9 hW9; (try dsimp only at hW9); go_simp; try with_reducible rfl
          simp only [Act.put, List.setIfInBounds_toArray]
          dsimp only [List.set_cons_zero, List.set_cons_succ]
          refine take_on (i := 40) (v := ?_) (by simp only [List.getElem?_toArray, List.getElem?_cons_succ, List.getElem?_cons_zero]; rfl) ?_
          rotate_left
          refine ⟨⟨by as_aux_lemma => kernel_rfl, by as_aux_lemma => kernel_rfl, by as_aux_lemma => kernel_rfl, by rfl⟩, fun _ _ _ h => h, ?_, hS, ?_⟩
          · intro W9 hW9; (try dsimp only at hW9); go_simp; try with_reducible rfl
          simp only [Act.put, List.setIfInBounds_toArray]
          dsimp only [List.set_cons_zero, List.set_cons_succ]
          refine take_on (i := 41) (v := ?_) (by simp only [List.getElem?_toArray, List.getElem?_cons_succ, List.getElem?_cons_zero]; rfl) ?_
          rotate_left
          refine ⟨⟨by as_aux_lemma => kernel_rfl, by as_aux_lemma => kernel_rfl, by as_aux_lemma => kernel_rfl, by rfl⟩, fun _ _ _ h => h, ?_, hS, ?_⟩
          · intro W9 hW9; (try dsimp only at hW9); go_simp; try with_reducible rfl
          simp only [Act.put, List.setIfInBounds_toArray]
          dsimp only [List.set_cons_zero, List.set_cons_succ]
          refine take_on (i := 42) (v := ?_) (by simp only [List.getElem?_toArray, List.getElem?_cons_succ, List.getElem?_cons_zero]; rfl) ?_
          rotate_left
          refine ⟨⟨by as_aux_lemma => kernel_rfl, by as_aux_lemma => kernel_rfl, by as_aux_lemma => kernel_rfl, by rfl⟩, fun _ _ _ h => h, ?_, hS, ?_⟩
          · intro W9 hW9; (try dsimp only at hW9); go_simp; try with_reducible rfl
          simp only [Act.put, List.setIfInBounds_toArray]
          dsimp only [List.set_cons_zero, List.set_cons_succ]
          refine take_on (i := 43) (v := ?_) (by simp only [List.getElem?_toArray, List.getElem?_cons_succ, List.getElem?_cons_zero]; rfl) ?_
          rotate_left
          refine ⟨⟨by as_aux_lemma => kernel_rfl, by as_aux_lemma => kernel_rfl, by as_aux_lemma => kernel_rfl, by rfl⟩, fun _ _ _ h => h, ?_, hS, ?_⟩
          · intro W9 hW9; (try dsimp only at hW9); go_simp; try with_reducible rfl
          simp only [Act.put, List.setIfInBounds_toArray]
          dsimp only [List.set_cons_zero, List.set_cons_succ]
          refine take_on (i := 44) (v := ?_) (by simp only [List.getElem?_toArray, List.getElem?_cons_succ, List.getElem?_cons_zero]; rfl) ?_
          rotate_left
          refine ⟨⟨by as_aux_lemma => kernel_rfl, by as_aux_lemma => kernel_rfl, by as_aux_lemma => kernel_rfl, by rfl⟩, fun _ _ _ h => h, ?_, hS, ?_⟩
          · intro W9 hW9; (try dsimp only at hW9); go_simp; try with_reducible rfl
          simp only [Act.put, List.setIfInBounds_toArray]
          dsimp only [List.set_cons_zero, List.set_cons_succ]
          refine take_on (i := 45) (v := ?_) (by simp only [List.getElem?_toArray, List.getElem?_cons_succ, List.getElem?_cons_zero]; rfl) ?_
          rotate_left
          refine ⟨⟨by as_aux_lemma => kernel_rfl, by as_aux_lemma => kernel_rfl, by as_aux_lemma => kernel_rfl, by rfl⟩, fun _ _ _ h => h, ?_, hS, ?_⟩
          · intro W9 hW9; (try dsimp only at hW9); go_simp; try with_reducible rfl
          simp only [Act.put, List.setIfInBounds_toArray]
          dsimp only [List.set_cons_zero, List.set_cons_succ]
          refine take_on (i := 46) (v := ?_) (by simp only [List.getElem?_toArray, List.getElem?_cons_succ, List.getElem?_cons_zero]; rfl) ?_
          rotate_left
          refine ⟨⟨by as_aux_lemma => kernel_rfl, by as_aux_lemma => kernel_rfl, by as_aux_lemma => kernel_rfl, by rfl⟩, fun _ _ _ h => h, ?_, hS, ?_⟩
          · intro W9 hW9; (try dsimp only at hW9); go_simp; try with_reducible rfl
          simp only [Act.put, List.setIfInBounds_toArray]
          dsimp only [List.set_cons_zero, List.set_cons_succ]
          refine take_on (i := 47) (v := ?_) (by simp only [List.getElem?_toArray, List.getElem?_cons_succ, List.getElem?_cons_zero]; rfl) ?_
          rotate_left
          refine ⟨⟨by as_aux_lemma => kernel_rfl, by as_aux_lemma => kernel_rfl, by as_aux_lemma => kernel_rfl, by rfl⟩, fun _ _ _ h => h, ?_, hS, ?_⟩
          · intro W9 hW9; (try dsimp only at hW9); go_simp; try with_reducible rfl
          simp only [Act.put, List.setIfInBounds_toArray]
          dsimp only [List.set_cons_zero, List.set_cons_succ]
          refine take_on (i := 48) (v := ?_) (by simp only [List.getElem?_toArray, List.getElem?_cons_succ, List.getElem?_cons_zero]; rfl) ?_
          rotate_left
          refine ⟨⟨by as_aux_lemma => kernel_rfl, by as_aux_lemma => kernel_rfl, by as_aux_lemma => kernel_rfl, by rfl⟩, fun _ _ _ h => h, ?_, hS, ?_⟩
          · intro W9 hW9; (try dsimp only at hW9); go_simp; try with_reducible rfl
          simp only [Act.put, List.setIfInBounds_toArray]
          dsimp only [List.set_cons_zero, List.set_cons_succ]
          refine take_on (i := 49) (v := .bool false) (by simp only [List.getElem?_toArray, List.getElem?_cons_succ, List.getElem?_cons_zero]; rfl) ?_
          refine ⟨⟨by as_aux_lemma => kernel_rfl, by as_aux_lemma => kernel_rfl, by as_aux_lemma => kernel_rfl, by rfl⟩, fun _ _ _ h => h, ?_, hS, ?_⟩
          · intro W9 hW9; (try dsimp only at hW9); go_simp <;> (first | done | omega | (simp; done) | (simp; omega))
          simp only [Act.put, List.setIfInBounds_toArray]
          dsimp only [List.set_cons_zero, List.set_cons_succ]
          refine take_on (i := 50) (v := ?_) (by simp only [List.getElem?_toArray, List.getElem?_cons_succ, List.getElem?_cons_zero]; rfl) ?_
          rotate_left
          refine ⟨⟨by as_aux_lemma => kernel_rfl, by as_aux_lemma => kernel_rfl, by as_aux_lemma => kernel_rfl, by rfl⟩, fun _ _ _ h => h, ?_, hS, ?_⟩
          · intro W9 hW9; (try dsimp only at hW9); go_simp; try with_reducible rfl
          simp only [Act.put, List.setIfInBounds_toArray]
          dsimp only [List.set_cons_zero, List.set_cons_succ]
          refine take_on (i := 51) (v := ?_) (by simp only [List.getElem?_toArray, List.getElem?_cons_succ, List.getElem?_cons_zero]; rfl) ?_
          rotate_left
          refine ⟨⟨by as_aux_lemma => kernel_rfl, by as_aux_lemma => kernel_rfl, by as_aux_lemma => kernel_rfl, by rfl⟩, fun _ _ _ h => h, ?_, hS, ?_⟩
          · intro W9 hW9; (try dsimp only at hW9); go_simp; try with_reducible rfl
          simp only [Act.put, List.setIfInBounds_toArray]
          dsimp only [List.set_cons_zero, List.set_cons_succ]
          refine take_on (i := 52) (v := ?_) (by simp only [List.getElem?_toArray, List.getElem?_cons_succ, List.getElem?_cons_zero]; rfl) ?_
          rotate_left
          refine ⟨⟨by as_aux_lemma => kernel_rfl, by as_aux_lemma => kernel_rfl, by as_aux_lemma => kernel_rfl, by rfl⟩, fun _ _ _ h => h, ?_, hS, ?_⟩
          · intro W9 hW9; (try dsimp only at hW9); go_simp; try with_reducible rfl
          simp only [Act.put, List.setIfInBounds_toArray]
          dsimp only [List.set_cons_zero, List.set_cons_succ]
          refine take_on (i := 53) (v := ?_) (by simp only [List.getElem?_toArray, List.getElem?_cons_succ, List.getElem?_cons_zero]; rfl) ?_
          rotate_left
          refine ⟨⟨by as_aux_lemma => kernel_rfl, by as_aux_lemma => kernel_rfl, by as_aux_lemma => kernel_rfl, by rfl⟩, fun _ _ _ h => h, ?_, hS, ?_⟩
          · intro W9 hW9; (try dsimp only at hW9); go_simp; try with_reducible rfl
          simp only [Act.put, List.setIfInBounds_toArray]
          dsimp only [List.set_cons_zero, List.set_cons_succ]
          refine take_on (i := 54) (v := ?_) (by simp only [List.getElem?_toArray, List.getElem?_cons_succ, List.getElem?_cons_zero]; rfl) ?_
          rotate_left
          refine ⟨⟨by as_aux_lemma => kernel_rfl, by as_aux_lemma => kernel_rfl, by as_aux_lemma => kernel_rfl, by rfl⟩, fun _ _ _ h => h, ?_, hS, ?_⟩
          · intro W9 hW9; (try dsimp only at hW9); go_simp; try with_reducible rfl
          simp only [Act.put, List.setIfInBounds_toArray]
          dsimp only [List.set_cons_zero, List.set_cons_succ]
          refine take_on (i := 55) (v := ?_) (by simp only [List.getElem?_toArray, List.getElem?_cons_succ, List.getElem?_cons_zero]; rfl) ?_
          rotate_left
          refine ⟨⟨by as_aux_lemma => kernel_rfl, by as_aux_lemma => kernel_rfl, by as_aux_lemma => kernel_rfl, by rfl⟩, fun _ _ _ h => h, ?_, hS, ?_⟩
          · intro W9 hW9; (try dsimp only at hW9); go_simp; try with_reducible rfl
          simp only [Act.put, List.setIfInBounds_toArray]
          dsimp only [List.set_cons_zero, List.set_cons_succ]
          refine take_on (i := 56) (v := ?_) (by simp only [List.getElem?_toArray, List.getElem?_cons_succ, List.getElem?_cons_zero]; rfl) ?_
          rotate_left
          refine ⟨⟨by as_aux_lemma => kernel_rfl, by as_aux_lemma => kernel_rfl, by as_aux_lemma => kernel_rfl, by rfl⟩, fun _ _ _ h => h, ?_, hS, ?_⟩
          · intro W9 hW9; (try dsimp only at hW9); go_simp; try with_reducible rfl
          simp only [Act.put, List.setIfInBounds_toArray]
          dsimp only [List.set_cons_zero, List.set_cons_succ]
          refine take_off (i := 57) (by simp only [List.getElem?_toArray, List.getElem?_cons_succ, List.getElem?_cons_zero]; rfl) ?_
          refine ⟨⟨by as_aux_lemma => kernel_rfl, by as_aux_lemma => kernel_rfl, by as_aux_lemma => kernel_rfl, by rfl⟩, fun _ _ _ h => h, hS, ?_⟩
          simp only [Act.put, List.setIfInBounds_toArray]
          dsimp only [List.set_cons_zero, List.set_cons_succ]
          refine take_off (i := 58) (by simp only [List.getElem?_toArray, List.getElem?_cons_succ, List.getElem?_cons_zero]; rfl) ?_
          refine ⟨⟨by as_aux_lemma => kernel_rfl, by as_aux_lemma => kernel_rfl, by as_aux_lemma => kernel_rfl, by rfl⟩, fun _ _ _ h => h, hS, ?_⟩
          simp only [Act.put, List.setIfInBounds_toArray]
          dsimp only [List.set_cons_zero, List.set_cons_succ]
          refine take_off (i := 59) (by simp only [List.getElem?_toArray, List.getElem?_cons_succ, List.getElem?_cons_zero]; rfl) ?_
          refine ⟨⟨by as_aux_lemma => kernel_rfl, by as_aux_lemma => kernel_rfl, by as_aux_lemma => kernel_rfl, by rfl⟩, fun _ _ _ h => h, hS, ?_⟩
          simp only [Act.put, List.setIfInBounds_toArray]
          dsimp only [List.set_cons_zero, List.set_cons_succ]
          refine take_off (i := 60) (by simp only [List.getElem?_toArray, List.getElem?_cons_succ, List.getElem?_cons_zero]; rfl) ?_
          refine ⟨⟨by as_aux_lemma => kernel_rfl, by as_aux_lemma => kernel_rfl, by as_aux_lemma => kernel_rfl, by rfl⟩, fun _ _ _ h => h, hS, ?_⟩
          simp only [Act.put, List.setIfInBounds_toArray]
          dsimp only [List.set_cons_zero, List.set_cons_succ]
          refine take_off (i := 61) (by simp only [List.getElem?_toArray, List.getElem?_cons_succ, List.getElem?_cons_zero]; rfl) ?_
          refine ⟨⟨by as_aux_lemma => kernel_rfl, by as_aux_lemma => kernel_rfl, by as_aux_lemma => kernel_rfl, by rfl⟩, fun _ _ _ h => h, hS, ?_⟩
          simp only [Act.put, List.setIfInBounds_toArray]
          dsimp only [List.set_cons_zero, List.set_cons_succ]
          refine take_off (i := 62) (by simp only [List.getElem?_toArray, List.getElem?_cons_succ, List.getElem?_cons_zero]; rfl) ?_
          refine ⟨⟨by as_aux_lemma => kernel_rfl, by as_aux_lemma => kernel_rfl, by as_aux_lemma => kernel_rfl, by rfl⟩, fun _ _ _ h => h, hS, ?_⟩
          simp only [Act.put, List.setIfInBounds_toArray]
          dsimp only [List.set_cons_zero, List.set_cons_succ]
          refine take_off (i := 63) (by simp only [List.getElem?_toArray, List.getElem?_cons_succ, List.getElem?_cons_zero]; rfl) ?_
          refine ⟨⟨by as_aux_lemma => kernel_rfl, by as_aux_lemma => kernel_rfl, by as_aux_lemma => kernel_rfl, by rfl⟩, fun _ _ _ h => h, hS, ?_⟩
          simp only [Act.put, List.setIfInBounds_toArray]
          dsimp only [List.set_cons_zero, List.set_cons_succ]
          refine take_off (i := 64) (by simp only [List.getElem?_toArray, List.getElem?_cons_succ, List.getElem?_cons_zero]; rfl) ?_
          refine ⟨⟨by as_aux_lemma => kernel_rfl, by as_aux_lemma => kernel_rfl, by as_aux_lemma => kernel_rfl, by rfl⟩, fun _ _ _ h => h, hS, ?_⟩
          simp only [Act.put, List.setIfInBounds_toArray]
          dsimp only [List.set_cons_zero, List.set_cons_succ]
          refine take_off (i := 65) (by simp only [List.getElem?_toArray, List.getElem?_cons_succ, List.getElem?_cons_zero]; rfl) ?_
          refine ⟨⟨by as_aux_lemma => kernel_rfl, by as_aux_lemma => kernel_rfl, by as_aux_lemma => kernel_rfl, by rfl⟩, fun _ _ _ h => h, hS, ?_⟩
          simp only [Act.put, List.setIfInBounds_toArray]
          dsimp only [List.set_cons_zero, List.set_cons_succ]
          refine take_off (i := 66) (by simp only [List.getElem?_toArray, List.getElem?_cons_succ, List.getElem?_cons_zero]; rfl) ?_
          refine ⟨⟨by as_aux_lemma => kernel_rfl, by as_aux_lemma => kernel_rfl, by as_aux_lemma => kernel_rfl, by rfl⟩, fun _ _ _ h => h, hS, ?_⟩
          simp only [Act.put, List.setIfInBounds_toArray]
          dsimp only [List.set_cons_zero, List.set_cons_succ]
          refine take_off (i := 67) (by simp only [List.getElem?_toArray, List.getElem?_cons_succ, List.getElem?_cons_zero]; rfl) ?_
          refine ⟨⟨by as_aux_lemma => kernel_rfl, by as_aux_lemma => kernel_rfl, by as_aux_lemma => kernel_rfl, by rfl⟩, fun _ _ _ h => h, hS, ?_⟩
          simp only [Act.put, List.setIfInBounds_toArray]
          dsimp only [List.set_cons_zero, List.set_cons_succ]
          refine take_off (i := 68) (by simp only [List.getElem?_toArray, List.getElem?_cons_succ, List.getElem?_cons_zero]; rfl) ?_
          refine ⟨⟨by as_aux_lemma => kernel_rfl, by as_aux_lemma => kernel_rfl, by as_aux_lemma => kernel_rfl, by rfl⟩, fun _ _ _ h => h, hS, ?_⟩
          simp only [Act.put, List.setIfInBounds_toArray]
          dsimp only [List.set_cons_zero, List.set_cons_succ]
          refine take_off (i := 69) (by simp only [List.getElem?_toArray, List.getElem?_cons_succ, List.getElem?_cons_zero]; rfl) ?_
          refine ⟨⟨by as_aux_lemma => kernel_rfl, by as_aux_lemma => kernel_rfl, by as_aux_lemma => kernel_rfl, by rfl⟩, fun _ _ _ h => h, hS, ?_⟩
          simp only [Act.put, List.setIfInBounds_toArray]
          dsimp only [List.set_cons_zero, List.set_cons_succ]
          refine take_on (i := 70) (v := ?_) (by simp only [List.getElem?_toArray, List.getElem?_cons_succ, List.getElem?_cons_zero]; rfl) ?_
          rotate_left
          refine ⟨⟨by as_aux_lemma => kernel_rfl, by as_aux_lemma => kernel_rfl, by as_aux_lemma => kernel_rfl, by rfl⟩, fun _ _ _ h => h, ?_, hS, ?_⟩
          · intro W9 hW9; (try dsimp only at hW9); go_simp; try with_reducible rfl
          simp only [Act.put, List.setIfInBounds_toArray]
          dsimp only [List.set_cons_zero, List.set_cons_succ]
          refine take_on (i := 71) (v := ?_) (by simp only [List.getElem?_toArray, List.getElem?_cons_succ, List.getElem?_cons_zero]; rfl) ?_
          rotate_left
          refine ⟨⟨by as_aux_lemma => kernel_rfl, by as_aux_lemma => kernel_rfl, by as_aux_lemma => kernel_rfl, by rfl⟩, fun _ _ _ h => h, ?_, hS, ?_⟩
          · intro W9 hW9; (try dsimp only at hW9); go_simp; try with_reducible rfl
          simp only [Act.put, List.setIfInBounds_toArray]
          dsimp only [List.set_cons_zero, List.set_cons_succ]
          refine take_on (i := 72) (v := ?_) (by simp only [List.getElem?_toArray, List.getElem?_cons_succ, List.getElem?_cons_zero]; rfl) ?_
          rotate_left
          refine ⟨⟨by as_aux_lemma => kernel_rfl, by as_aux_lemma => kernel_rfl, by as_aux_lemma => kernel_rfl, by rfl⟩, fun _ _ _ h => h, ?_, hS, ?_⟩
          · intro W9 hW9; (try dsimp only at hW9); go_simp; try with_reducible rfl
          simp only [Act.put, List.setIfInBounds_toArray]
          dsimp only [List.set_cons_zero, List.set_cons_succ]
          refine take_on (i := 73) (v := ?_) (by simp only [List.getElem?_toArray, List.getElem?_cons_succ, List.getElem?_cons_zero]; rfl) ?_
          rotate_left
          refine ⟨⟨by as_aux_lemma => kernel_rfl, by as_aux_lemma => kernel_rfl, by as_aux_lemma => kernel_rfl, by rfl⟩, fun _ _ _ h => h, ?_, hS, ?_⟩
          · intro W9 hW9; (try dsimp only at hW9); go_simp; try with_reducible rfl
          simp only [Act.put, List.setIfInBounds_toArray]
          dsimp only [List.set_cons_zero, List.set_cons_succ]
          refine take_on (i := 74) (v := ?_) (by simp only [List.getElem?_toArray, List.getElem?_cons_succ, List.getElem?_cons_zero]; rfl) ?_
          rotate_left
          refine ⟨⟨by as_aux_lemma => kernel_rfl, by as_aux_lemma => kernel_rfl, by as_aux_lemma => kernel_rfl, by rfl⟩, fun _ _ _ h => h, ?_, hS, ?_⟩
          · intro W9 hW9; (try dsimp only at hW9); go_simp; try with_reducible rfl
          simp only [Act.put, List.setIfInBounds_toArray]
          dsimp only [List.set_cons_zero, List.set_cons_succ]
          refine take_on (i := 75) (v := ?_) (by simp only [List.getElem?_toArray, List.getElem?_cons_succ, List.getElem?_cons_zero]; rfl) ?_
          rotate_left
          refine ⟨⟨by as_aux_lemma => kernel_rfl, by as_aux_lemma => kernel_rfl, by as_aux_lemma => kernel_rfl, by rfl⟩, fun _ _ _ h => h, ?_, hS, ?_⟩
          · intro W9 hW9; (try dsimp only at hW9); go_simp; try with_reducible rfl
          simp only [Act.put, List.setIfInBounds_toArray]
          dsimp only [List.set_cons_zero, List.set_cons_succ]
          refine take_on (i := 76) (v := ?_) (by simp only [List.getElem?_toArray, List.getElem?_cons_succ, List.getElem?_cons_zero]; rfl) ?_
          rotate_left
          refine ⟨⟨by as_aux_lemma => kernel_rfl, by as_aux_lemma => kernel_rfl, by as_aux_lemma => kernel_rfl, by rfl⟩, fun _ _ _ h => h, ?_, hS, ?_⟩
          · intro W9 hW9; (try dsimp only at hW9); go_simp; try with_reducible rfl
          simp only [Act.put, List.setIfInBounds_toArray]
          dsimp only [List.set_cons_zero, List.set_cons_succ]
          refine take_off (i := 77) (by simp only [List.getElem?_toArray, List.getElem?_cons_succ, List.getElem?_cons_zero]; rfl) ?_
          refine ⟨⟨by as_aux_lemma => kernel_rfl, by as_aux_lemma => kernel_rfl, by as_aux_lemma => kernel_rfl, by rfl⟩, fun _ _ _ h => h, hS, ?_⟩
          simp only [Act.put, List.setIfInBounds_toArray]
          dsimp only [List.set_cons_zero, List.set_cons_succ]
          refine take_off (i := 78) (by simp only [List.getElem?_toArray, List.getElem?_cons_succ, List.getElem?_cons_zero]; rfl) ?_
          refine ⟨⟨by as_aux_lemma => kernel_rfl, by as_aux_lemma => kernel_rfl, by as_aux_lemma => kernel_rfl, by rfl⟩, fun _ _ _ h => h, hS, ?_⟩
          simp only [Act.put, List.setIfInBounds_toArray]
          dsimp only [List.set_cons_zero, List.set_cons_succ]
          refine take_off (i := 79) (by simp only [List.getElem?_toArray, List.getElem?_cons_succ, List.getElem?_cons_zero]; rfl) ?_
          refine ⟨⟨by as_aux_lemma => kernel_rfl, by as_aux_lemma => kernel_rfl, by as_aux_lemma => kernel_rfl, by rfl⟩, fun _ _ _ h => h, hS, ?_⟩
          simp only [Act.put, List.setIfInBounds_toArray]
          dsimp only [List.set_cons_zero, List.set_cons_succ]
          refine take_off (i := 80) (by simp only [List.getElem?_toArray, List.getElem?_cons_succ, List.getElem?_cons_zero]; rfl) ?_
          refine ⟨⟨by as_aux_lemma => kernel_rfl, by as_aux_lemma => kernel_rfl, by as_aux_lemma => kernel_rfl, by rfl⟩, fun _ _ _ h => h, hS, ?_⟩
          simp only [Act.put, List.setIfInBounds_toArray]
          dsimp only [List.set_cons_zero, List.set_cons_succ]
          refine take_off (i := 81) (by simp only [List.getElem?_toArray, List.getElem?_cons_succ, List.getElem?_cons_zero]; rfl) ?_
          refine ⟨⟨by as_aux_lemma => kernel_rfl, by as_aux_lemma => kernel_rfl, by as_aux_lemma => kernel_rfl, by rfl⟩, fun _ _ _ h => h, hS, ?_⟩
          simp only [Act.put, List.setIfInBounds_toArray]
          dsimp only [List.set_cons_zero, List.set_cons_succ]
          refine take_off (i := 82) (by simp only [List.getElem?_toArray, List.getElem?_cons_succ, List.getElem?_cons_zero]; rfl) ?_
          refine ⟨⟨by as_aux_lemma => kernel_rfl, by as_aux_lemma => kernel_rfl, by as_aux_lemma => kernel_rfl, by rfl⟩, fun _ _ _ h => h, hS, ?_⟩
          simp only [Act.put, List.setIfInBounds_toArray]
          dsimp only [List.set_cons_zero, List.set_cons_succ]
          refine take_off (i := 83) (by simp only [List.getElem?_toArray, List.getElem?_cons_succ, List.getElem?_cons_zero]; rfl) ?_
          refine ⟨⟨by as_aux_lemma => kernel_rfl, by as_aux_lemma => kernel_rfl, by as_aux_lemma => kernel_rfl, by rfl⟩, fun _ _ _ h => h, hS, ?_⟩
          simp only [Act.put, List.setIfInBounds_toArray]
          dsimp only [List.set_cons_zero, List.set_cons_succ]
          refine take_off (i := 84) (by simp only [List.getElem?_toArray, List.getElem?_cons_succ, List.getElem?_cons_zero]; rfl) ?_
          refine ⟨⟨by as_aux_lemma => kernel_rfl, by as_aux_lemma => kernel_rfl, by as_aux_lemma => kernel_rfl, by rfl⟩, fun _ _ _ h => h, hS, ?_⟩
          simp only [Act.put, List.setIfInBounds_toArray]
          dsimp only [List.set_cons_zero, List.set_cons_succ]
          refine take_off (i := 85) (by simp only [List.getElem?_toArray, List.getElem?_cons_succ, List.getElem?_cons_zero]; rfl) ?_
          refine ⟨⟨by as_aux_lemma => kernel_rfl, by as_aux_lemma => kernel_rfl, by as_aux_lemma => kernel_rfl, by rfl⟩, fun _ _ _ h => h, hS, ?_⟩
          simp only [Act.put, List.setIfInBounds_toArray]
          dsimp only [List.set_cons_zero, List.set_cons_succ]
          refine take_off (i := 86) (by simp only [List.getElem?_toArray, List.getElem?_cons_succ, List.getElem?_cons_zero]; rfl) ?_
          refine ⟨⟨by as_aux_lemma => kernel_rfl, by as_aux_lemma => kernel_rfl, by as_aux_lemma => kernel_rfl, by rfl⟩, fun _ _ _ h => h, hS, ?_⟩
          simp only [Act.put, List.setIfInBounds_toArray]
          dsimp only [List.set_cons_zero, List.set_cons_succ]
          refine take_off (i := 87) (by simp only [List.getElem?_toArray, List.getElem?_cons_succ, List.getElem?_cons_zero]; rfl) ?_
          refine ⟨⟨by as_aux_lemma => kernel_rfl, by as_aux_lemma => kernel_rfl, by as_aux_lemma => kernel_rfl, by rfl⟩, fun _ _ _ h => h, hS, ?_⟩
          simp only [Act.put, List.setIfInBounds_toArray]
          dsimp only [List.set_cons_zero, List.set_cons_succ]
          refine take_off (i := 88) (by simp only [List.getElem?_toArray, List.getElem?_cons_succ, List.getElem?_cons_zero]; rfl) ?_
          refine ⟨⟨by as_aux_lemma => kernel_rfl, by as_aux_lemma => kernel_rfl, by as_aux_lemma => kernel_rfl, by rfl⟩, fun _ _ _ h => h, hS, ?_⟩
          simp only [Act.put, List.setIfInBounds_toArray]
          dsimp only [List.set_cons_zero, List.set_cons_succ]
          refine take_off (i := 89) (by simp only [List.getElem?_toArray, List.getElem?_cons_succ, List.getElem?_cons_zero]; rfl) ?_
          refine ⟨⟨by as_aux_lemma => kernel_rfl, by as_aux_lemma => kernel_rfl, by as_aux_lemma => kernel_rfl, by rfl⟩, fun _ _ _ h => h, hS, ?_⟩
          simp only [Act.put, List.setIfInBounds_toArray]
          dsimp only [List.set_cons_zero, List.set_cons_succ]
          refine take_on (i := 90) (v := ?_) (by simp only [List.getElem?_toArray, List.getElem?_cons_succ, List.getElem?_cons_zero]; rfl) ?_
          rotate_left
          refine ⟨⟨by as_aux_lemma => kernel_rfl, by as_aux_lemma => kernel_rfl, by as_aux_lemma => kernel_rfl, by rfl⟩, fun _ _ _ h => h, ?_, hS, ?_⟩
          · intro W9 hW9; (try dsimp only at hW9); go_simp; try with_reducible rfl
          simp only [Act.put, List.setIfInBounds_toArray]
          dsimp only [List.set_cons_zero, List.set_cons_succ]
          refine take_on (i := 91) (v := ?_) (by simp only [List.getElem?_toArray, List.getElem?_cons_succ, List.getElem?_cons_zero]; rfl) ?_
          rotate_left
          refine ⟨⟨by as_aux_lemma => kernel_rfl, by as_aux_lemma => kernel_rfl, by as_aux_lemma => kernel_rfl, by rfl⟩, fun _ _ _ h => h, ?_, hS, ?_⟩
          · intro W9 hW9; (try dsimp only at hW9); go_simp; try with_reducible rfl
          simp only [Act.put, List.setIfInBounds_toArray]
          dsimp only [List.set_cons_zero, List.set_cons_succ]
          refine wpAnyH_done (by kernel_rfl) ?_ _
          go_wp2_with fail
          go_roundw
          case rel => exact ⟨k + 1, by omega, by go_num, k0k, k1k, (by (repeat (first | with_reducible assumption | with_reducible exact Below.refl _ _ | (with_reducible refine bel_next ?_ ?_ (by assumption)) | (with_reducible refine Below.alloc ?_ ?_ _) | (with_reducible refine Below.drew ?_) | (with_reducible refine below_drewN ?_ _) | (with_reducible refine Below.setCell ?_ ?_ _))) <;> (first | omega | (simp; done) | (simp; omega))), (by (repeat (first | with_reducible assumption | with_reducible exact Below.refl _ _ | (with_reducible refine bel_next ?_ ?_ (by assumption)) | (with_reducible refine Below.alloc ?_ ?_ _) | (with_reducible refine Below.drew ?_) | (with_reducible refine below_drewN ?_ _) | (with_reducible refine Below.setCell ?_ ?_ _))) <;> (first | omega | (simp; done) | (simp; omega)))⟩
          case measure => first | (simp [intOf]; done) | (simp [intOf]; omega)
    · have hlt' : ¬ (k : Int) < (gs.length : Int) := by omega
      go_wp2_with fail
      clear hlt' hlt
      go_loopw [11] (fun i w2 => ∃ k : Nat, k ≤ os.length ∧ i = .int .i64 k ∧ w2.cell? ⟨w1.heap.size, 0, none⟩ = some (.slice (some ⟨g1, 0, none⟩) gs.length c1) ∧ w2.cell? ⟨w1.heap.size, 1, none⟩ = some (.slice (some ⟨g2, 0, none⟩) os.length c2) ∧ Below w.heap.size w w2 ∧ Below w4.heap.size w4 w2) (fun i _ => os.length - (intOf i).toNat)
      case atStart => exact ⟨0, Nat.zero_le _, rfl, k0, k1, hbw, hbg⟩
      case round =>
        clear k0 k1 zr zg hbw hbg
        obtain ⟨k, hk2, rfl, k0, k1, hbw, hbg⟩ := hrel
        have zr := hbw.size
        have zg := hbg.size
        by_cases hlt : k < os.length
        · have hlt' : (k : Int) < (os.length : Int) := by omega
          have e1 := (HQO.out.below hbg).elemC k (by rw [HOL.out]; exact hlt)
          have e2 := (HQ2.out.below hbg).elemC k hlt
          rw [Nat.zero_add] at e2
          have hob := at0_in HOB.out hlt
          have hva : at0 EO (k : Int) = at0 EW (at0 os (k : Int)) := by rw [HEO.out]; exact outsOf_at EW os k hlt
          obtain ⟨m, hm3⟩ := Int.eq_ofNat_of_zero_le hob.1
          rw [hm3] at hob e2 hva
          have e3 := (HQW.out.below hbg).elemC m (by rw [HEL.out]; omega)
          rw [hva] at e1
          obtain ⟨x, hx⟩ : ∃ x, x = at0 EW (m : Int) := ⟨_, rfl⟩
          rw [← hx] at e1 e3
          have hm4 : (m : Int) < (gs.length : Int) := by omega
          clear hva hx hm3 hob
          go_wp2_with fail
          go_quiet (fail)
          go_wp2_with fail
          go_roundw
          case rel => exact ⟨k + 1, by omega, by go_num, (by first | (go_simp; done) | assumption), (by first | (go_simp; done) | assumption), (by (repeat (first | with_reducible assumption | with_reducible exact Below.refl _ _ | (with_reducible refine bel_next ?_ ?_ (by assumption)) | (with_reducible refine Below.alloc ?_ ?_ _) | (with_reducible refine Below.drew ?_) | (with_reducible refine below_drewN ?_ _) | (with_reducible refine Below.setCell ?_ ?_ _))) <;> (first | omega | (simp; done) | (simp; omega))), (by (repeat (first | with_reducible assumption | with_reducible exact Below.refl _ _ | (with_reducible refine bel_next ?_ ?_ (by assumption)) | (with_reducible refine Below.alloc ?_ ?_ _) | (with_reducible refine Below.drew ?_) | (with_reducible refine below_drewN ?_ _) | (with_reducible refine Below.setCell ?_ ?_ _))) <;> (first | omega | (simp; done) | (simp; omega)))⟩
          case measure => first | (simp [intOf]; done) | (simp [intOf]; omega)
        · have hlt' : ¬ (k : Int) < (os.length : Int) := by omega
          go_wp2_with fail
          have hd1 : (d : Int) ≤ (n : Int) := hcnt
          go_region_held3 (fun w' => w'.cell? ⟨w1.heap.size, 0, none⟩ = some (.slice (some ⟨g1, 0, none⟩) gs.length c1) ∧ w'.cell? ⟨w1.heap.size, 1, none⟩ = some (.slice (some ⟨g2, 0, none⟩) os.length c2))
            (first | go_keep)
            (first | (go_at_call 20; refine (iCountGates_any gs os 4 _ _ _ _ _ hm0 (HQ1.out.below (by (repeat (first | with_reducible assumption | with_reducible exact Below.refl _ _ | (with_reducible refine bel_next ?_ ?_ (by assumption)) | (with_reducible refine Below.alloc ?_ ?_ _) | (with_reducible refine Below.drew ?_) | (with_reducible refine below_drewN ?_ _) | (with_reducible refine Below.setCell ?_ ?_ _))) <;> (first | omega | (simp; done) | (simp; omega))))).mono ?_; rintro e v3 ⟨rfl, hv3⟩; rw [← HN.out]; have zv3 := hv3.size; (try simp at zv3); have kv3_0 := bel_keeps hv3 (b := w1.heap.size) (o := 0) (v := .slice (some ⟨g1, 0, none⟩) gs.length c1) (by first | (go_simp; done) | assumption); have kv3_1 := bel_keeps hv3 (b := w1.heap.size) (o := 1) (v := .slice (some ⟨g2, 0, none⟩) os.length c2) (by first | (go_simp; done) | assumption)) | (go_at_call 25; refine (iAndDepth_any gs os _ _ _ _ _ hm0 hm1 (HQ1.out.below (by (repeat (first | with_reducible assumption | with_reducible exact Below.refl _ _ | (with_reducible refine bel_next ?_ ?_ (by assumption)) | (with_reducible refine Below.alloc ?_ ?_ _) | (with_reducible refine Below.drew ?_) | (with_reducible refine below_drewN ?_ _) | (with_reducible refine Below.setCell ?_ ?_ _))) <;> (first | omega | (simp; done) | (simp; omega)))) (HQ2.out.below (by (repeat (first | with_reducible assumption | with_reducible exact Below.refl _ _ | (with_reducible refine bel_next ?_ ?_ (by assumption)) | (with_reducible refine Below.alloc ?_ ?_ _) | (with_reducible refine Below.drew ?_) | (with_reducible refine below_drewN ?_ _) | (with_reducible refine Below.setCell ?_ ?_ _))) <;> (first | omega | (simp; done) | (simp; omega))))).mono ?_; rintro e v4 ⟨rfl, hv4⟩; rw [HD1.out]; have zv4 := hv4.size; (try simp at zv4); have kv4_0 := bel_keeps hv4 (b := w1.heap.size) (o := 0) (v := .slice (some ⟨g1, 0, none⟩) gs.length c1) (by first | (go_simp; done) | assumption); have kv4_1 := bel_keeps hv4 (b := w1.heap.size) (o := 1) (v := .slice (some ⟨g2, 0, none⟩) os.length c2) (by first | (go_simp; done) | assumption)) | (go_at_call 23; refine (iCircuitOk_any gs os _ _ _ _ _ hm0 hm1 (HQ1.out.below (by (repeat (first | with_reducible assumption | with_reducible exact Below.refl _ _ | (with_reducible refine bel_next ?_ ?_ (by assumption)) | (with_reducible refine Below.alloc ?_ ?_ _) | (with_reducible refine Below.drew ?_) | (with_reducible refine below_drewN ?_ _) | (with_reducible refine Below.setCell ?_ ?_ _))) <;> (first | omega | (simp; done) | (simp; omega)))) (HQ2.out.below (by (repeat (first | with_reducible assumption | with_reducible exact Below.refl _ _ | (with_reducible refine bel_next ?_ ?_ (by assumption)) | (with_reducible refine Below.alloc ?_ ?_ _) | (with_reducible refine Below.drew ?_) | (with_reducible refine below_drewN ?_ _) | (with_reducible refine Below.setCell ?_ ?_ _))) <;> (first | omega | (simp; done) | (simp; omega))))).mono ?_; rintro e v5 ⟨rfl, hv5⟩; rw [HC1.out]; have zv5 := hv5.size; (try simp at zv5); have kv5_0 := bel_keeps hv5 (b := w1.heap.size) (o := 0) (v := .slice (some ⟨g1, 0, none⟩) gs.length c1) (by first | (go_simp; done) | assumption); have kv5_1 := bel_keeps hv5 (b := w1.heap.size) (o := 1) (v := .slice (some ⟨g2, 0, none⟩) os.length c2) (by first | (go_simp; done) | assumption)))
          all_goals go_wp2_with fail
          all_goals go_ret
          all_goals exact ⟨rfl, (by (repeat (first | with_reducible assumption | with_reducible exact Below.refl _ _ | (with_reducible refine bel_next ?_ ?_ (by assumption)) | (with_reducible refine Below.alloc ?_ ?_ _) | (with_reducible refine Below.drew ?_) | (with_reducible refine below_drewN ?_ _) | (with_reducible refine Below.setCell ?_ ?_ _))) <;> (first | omega | (simp; done) | (simp; omega)))⟩
end Go.Proofs.Ytfpblgbokmpmjaa

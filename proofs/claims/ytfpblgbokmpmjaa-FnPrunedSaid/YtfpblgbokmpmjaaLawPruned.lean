/- The walk of the law FnPruned. -/
import Derived.Test.YtfpblgbokmpmjaaDrCircD
import Derived.Test.YtfpblgbokmpmjaaPruneF2
import Derived.Test.YtfpblgbokmpmjaaEval
import Derived.Test.YtfpblgbokmpmjaaSame
import Derived.Test.YtfpblgbokmpmjaaShare
import Derived.Deep.RegionHeld3
import Derived.Deep.RegionLaw
namespace Go.Proofs.Ytfpblgbokmpmjaa
open Go.RowKit
set_option linter.unusedVariables false
set_option linter.unusedSimpArgs false
theorem set_swap (l : List Bool) (n m : Nat) : (l.set m true).set n true = (l.set n true).set m true := by
  by_cases h : n = m
  · subst h; rfl
  · exact (List.set_comm true true h).symm
set_option maxRecDepth 20000 in
set_option maxHeartbeats 16000000 in
theorem walk_FnPruned (w : World) (xs : List Int) (ad : Option Addr) (c : Nat) (hm : xs.length ≤ maxLen) (hr : RdC w ad (xs.map (Value.int .u8))) (hb : ∀ x ∈ xs, 0 ≤ x ∧ x ≤ 255) :
    Calls Try.prog 14 #[.slice ad xs.length c] w fun e w' => e = .returned (.bool true) ∧ Below w.heap.size w w' := by
  unfold maxLen at hm
  by_cases hsz : xs.length ≤ 1048576
  case neg =>
    go_enter Try.func14, Try.ntmps14
    go_wp2_with (first | (go_at_call 44; go_in) | fail)
    go_ret
    exact ⟨rfl, Below.refl _ _⟩
  go_enter Try.func14, Try.ntmps14
  go_wp2_with (first | (go_at_call 44; go_in) | fail)
  refine (DrawCircuit_any xs ad c w hsz hr hb).mono ?_
  rintro e w1 ⟨g1, c1, g2, c2, gb, cb, gs, os, bs, rfl, hdc, hbits, ho1, ho2, hob, hne, hb1⟩
  have hgl1 := hdc.g1
  have hgl2 := hdc.g2
  have hol1 := hdc.o1
  have hol2 := hdc.o2
  have hm0 : gs.length ≤ 1048576 := by omega
  have hm1 : os.length ≤ 1048576 := by omega
  have HOKC := Lib.hid hdc.ok
  have HBITS := Lib.hid hbits
  have HR1 := Lib.hid ho1.rd
  have HR2 := Lib.hid ho2.rd
  have HRB := Lib.hid hob.rd
  have z1 := hb1.size
  have ge1 := ho1.ge
  have ge2 := ho2.ge
  have geb := hob.ge
  have HO1 := Lib.hid ho1
  have HO2 := Lib.hid ho2
  clear hdc hbits ho1 ho2 hob hr hb
  have hok := HOKC.out
  obtain ⟨PG, hPG⟩ : ∃ x, x = pruneG gs os := ⟨_, rfl⟩
  obtain ⟨PO, hPO⟩ : ∃ x, x = pruneO gs os := ⟨_, rfl⟩
  have hF0 : PG.length ≤ gs.length := by rw [hPG]; exact pruneG_len gs os
  have hF1 : PO.length = os.length := by rw [hPO]; simp [pruneO]
  have hF1' : PO.length ≤ 4 := by omega
  have HPG : Hid (prG gs os = PG) := by show _ = _; rw [hPG]; simp [prG, hok]
  have HPO : Hid (prO gs os = PO) := by show _ = _; rw [hPO]; simp [prO, hok]
  have HPK : Hid (circOk PG PO = true) := by show _ = _; rw [hPG, hPO]; exact prune_ok hok
  have HALL : Hid (∀ m, m < PG.length → bat (liveL PG PO) m = true) := by rw [hPG, hPO]; exact fun m hm => prune_live hok m hm
  have HPE : Hid (evalOuts PG PO bs = evalOuts gs os bs) := by show _ = _; rw [hPG, hPO]; exact (prune_eval hok bs).1
  have HB1 : Hid (evalB gs os bs = true) := by show _ = _; unfold evalB; rw [hok, HBITS.out]; rfl
  have HB2 : Hid (evalB PG PO bs = true) := by show _ = _; rw [hPG, hPO, (prune_eval hok bs).2]; exact HB1.out
  have HLN : Hid (liveN gs os = (PG.length : Int)) := by show _ = _; unfold liveN; rw [hok, hPG]; rfl
  obtain ⟨EO, hEO⟩ : ∃ x, x = evalOuts gs os bs := ⟨_, rfl⟩
  have hEL : EO.length ≤ 4 := by rw [hEO]; have := evalOuts_len gs os bs; omega
  have HEO := Lib.hid hEO
  have hbl : bs.length = 80 := by have := HBITS.out; simp only [bitsB, Bool.and_eq_true, decide_eq_true_eq] at this; exact this.1
  have hmb : bs.length ≤ 1048576 := by omega
  clear hok hPG hPO hEO hbl hF1
  go_wp2_with fail
  obtain ⟨w2, hw2⟩ : ∃ W, W = w1.alloc (.cells #[.slice (some ⟨g1, 0, none⟩) gs.length c1, .slice (some ⟨g2, 0, none⟩) os.length c2] 30) := ⟨_, rfl⟩
  rw [← hw2]
  have hb2 : Below w1.heap.size w1 w2 := by rw [hw2]; exact (Below.refl _ _).alloc (Nat.le_refl _) _
  have x2 : w1.heap.size < w2.heap.size := by rw [hw2]; simp
  have z2 := hb2.size
  (try simp at z2)
  have kb2_0 : w2.cell? ⟨w1.heap.size, 0, none⟩ = some (.slice (some ⟨g1, 0, none⟩) gs.length c1) := by rw [hw2]; go_simp
  have kb2_1 : w2.cell? ⟨w1.heap.size, 1, none⟩ = some (.slice (some ⟨g2, 0, none⟩) os.length c2) := by rw [hw2]; go_simp
  clear hw2
  go_wp2_with fail
  have hcc := iPrune_any gs os (some ⟨g1, 0, none⟩) (some ⟨g2, 0, none⟩) c1 c2 w2 hm0 hm1 (HR1.out.below (by (repeat (first | with_reducible exact Below.refl _ _ | (with_reducible refine bel_next ?_ ?_ (by assumption)) | (with_reducible refine Below.alloc ?_ ?_ _) | (with_reducible refine Below.drew ?_) | (with_reducible refine below_drewN ?_ _) | (with_reducible refine Below.setCell ?_ ?_ _))) <;> (first | omega | (simp; done) | (simp; omega)))) (HR2.out.below (by (repeat (first | with_reducible exact Below.refl _ _ | (with_reducible refine bel_next ?_ ?_ (by assumption)) | (with_reducible refine Below.alloc ?_ ?_ _) | (with_reducible refine Below.drew ?_) | (with_reducible refine below_drewN ?_ _) | (with_reducible refine Below.setCell ?_ ?_ _))) <;> (first | omega | (simp; done) | (simp; omega))))
  rw [HPG.out, HPO.out] at hcc
  refine hcc.mono ?_
  clear hcc
  rintro e w3 ⟨b1, d1, b2, d2, rfl, hp1, hp2, hpn, hb3⟩
  have HP1 := Lib.hid hp1.rd
  have HP2 := Lib.hid hp2.rd
  clear hp1 hp2 hpn
  have z3 := hb3.size
  (try simp at z3)
  have y3_0 : w1.heap.size < w3.heap.size := (by omega)
  have k3_0 := bel_keeps hb3 (b := w1.heap.size) (o := 0) (v := .slice (some ⟨g1, 0, none⟩) gs.length c1) (by first | (go_simp; done) | assumption)
  have k3_1 := bel_keeps hb3 (b := w1.heap.size) (o := 1) (v := .slice (some ⟨g2, 0, none⟩) os.length c2) (by first | (go_simp; done) | assumption)
  clear kb2_0 kb2_1
  go_wp2_with fail
  obtain ⟨w4, hw4⟩ : ∃ W, W = w3.alloc (.cells #[.slice b1 PG.length d1, .slice b2 PO.length d2] 30) := ⟨_, rfl⟩
  rw [← hw4]
  have hb4 : Below w3.heap.size w3 w4 := by rw [hw4]; exact (Below.refl _ _).alloc (Nat.le_refl _) _
  have x4 : w3.heap.size < w4.heap.size := by rw [hw4]; simp
  have z4 := hb4.size
  (try simp at z4)
  have y4_0 : w1.heap.size < w4.heap.size := (by omega)
  have k4_0 := bel_keeps hb4 (b := w1.heap.size) (o := 0) (v := .slice (some ⟨g1, 0, none⟩) gs.length c1) (by first | (go_simp; done) | assumption)
  have k4_1 := bel_keeps hb4 (b := w1.heap.size) (o := 1) (v := .slice (some ⟨g2, 0, none⟩) os.length c2) (by first | (go_simp; done) | assumption)
  clear k3_0 k3_1
  have kb4_0 : w4.cell? ⟨w3.heap.size, 0, none⟩ = some (.slice b1 PG.length d1) := by rw [hw4]; go_simp
  have kb4_1 : w4.cell? ⟨w3.heap.size, 1, none⟩ = some (.slice b2 PO.length d2) := by rw [hw4]; go_simp
  clear hw4
  go_wp2_with fail
  have hcc := sEvalCircuit_any gs os bs (some ⟨g1, 0, none⟩) (some ⟨g2, 0, none⟩) (some ⟨gb, 0, none⟩) c1 c2 cb w4 hm0 hm1 hmb (HR1.out.below (by (repeat (first | with_reducible exact Below.refl _ _ | (with_reducible refine bel_next ?_ ?_ (by assumption)) | (with_reducible refine Below.alloc ?_ ?_ _) | (with_reducible refine Below.drew ?_) | (with_reducible refine below_drewN ?_ _) | (with_reducible refine Below.setCell ?_ ?_ _))) <;> (first | omega | (simp; done) | (simp; omega)))) (HR2.out.below (by (repeat (first | with_reducible exact Below.refl _ _ | (with_reducible refine bel_next ?_ ?_ (by assumption)) | (with_reducible refine Below.alloc ?_ ?_ _) | (with_reducible refine Below.drew ?_) | (with_reducible refine below_drewN ?_ _) | (with_reducible refine Below.setCell ?_ ?_ _))) <;> (first | omega | (simp; done) | (simp; omega)))) (HRB.out.below (by (repeat (first | with_reducible exact Below.refl _ _ | (with_reducible refine bel_next ?_ ?_ (by assumption)) | (with_reducible refine Below.alloc ?_ ?_ _) | (with_reducible refine Below.drew ?_) | (with_reducible refine below_drewN ?_ _) | (with_reducible refine Below.setCell ?_ ?_ _))) <;> (first | omega | (simp; done) | (simp; omega))))
  rw [HB1.out, ← HEO.out] at hcc
  refine hcc.mono ?_
  clear hcc
  rintro e w5 ⟨a5, c5, rfl, o5, hb5⟩
  have O5 := Lib.hid o5.rd
  clear o5
  have z5 := hb5.size
  (try simp at z5)
  have y5_0 : w1.heap.size < w5.heap.size := (by omega)
  have y5_1 : w3.heap.size < w5.heap.size := (by omega)
  have k5_0 := bel_keeps hb5 (b := w1.heap.size) (o := 0) (v := .slice (some ⟨g1, 0, none⟩) gs.length c1) (by first | (go_simp; done) | assumption)
  have k5_1 := bel_keeps hb5 (b := w1.heap.size) (o := 1) (v := .slice (some ⟨g2, 0, none⟩) os.length c2) (by first | (go_simp; done) | assumption)
  have k5_2 := bel_keeps hb5 (b := w3.heap.size) (o := 0) (v := .slice b1 PG.length d1) (by first | (go_simp; done) | assumption)
  have k5_3 := bel_keeps hb5 (b := w3.heap.size) (o := 1) (v := .slice b2 PO.length d2) (by first | (go_simp; done) | assumption)
  clear k4_0 k4_1 kb4_0 kb4_1
  go_wp2_with fail
  have hcc := iEvalCircuit_any PG PO bs b1 b2 (some ⟨gb, 0, none⟩) d1 d2 cb w5 (by omega) (by omega) hmb (HP1.out.below (by (repeat (first | with_reducible exact Below.refl _ _ | (with_reducible refine bel_next ?_ ?_ (by assumption)) | (with_reducible refine Below.alloc ?_ ?_ _) | (with_reducible refine Below.drew ?_) | (with_reducible refine below_drewN ?_ _) | (with_reducible refine Below.setCell ?_ ?_ _))) <;> (first | omega | (simp; done) | (simp; omega)))) (HP2.out.below (by (repeat (first | with_reducible exact Below.refl _ _ | (with_reducible refine bel_next ?_ ?_ (by assumption)) | (with_reducible refine Below.alloc ?_ ?_ _) | (with_reducible refine Below.drew ?_) | (with_reducible refine below_drewN ?_ _) | (with_reducible refine Below.setCell ?_ ?_ _))) <;> (first | omega | (simp; done) | (simp; omega)))) (HRB.out.below (by (repeat (first | with_reducible exact Below.refl _ _ | (with_reducible refine bel_next ?_ ?_ (by assumption)) | (with_reducible refine Below.alloc ?_ ?_ _) | (with_reducible refine Below.drew ?_) | (with_reducible refine below_drewN ?_ _) | (with_reducible refine Below.setCell ?_ ?_ _))) <;> (first | omega | (simp; done) | (simp; omega))))
  rw [HB2.out, HPE.out, ← HEO.out] at hcc
  refine hcc.mono ?_
  clear hcc
  rintro e w6 ⟨a6, c6, rfl, o6, hb6⟩
  have O6 := Lib.hid o6.rd
  clear o6
  have z6 := hb6.size
  (try simp at z6)
  have y6_0 : w1.heap.size < w6.heap.size := (by omega)
  have y6_1 : w3.heap.size < w6.heap.size := (by omega)
  have k6_0 := bel_keeps hb6 (b := w1.heap.size) (o := 0) (v := .slice (some ⟨g1, 0, none⟩) gs.length c1) (by first | (go_simp; done) | assumption)
  have k6_1 := bel_keeps hb6 (b := w1.heap.size) (o := 1) (v := .slice (some ⟨g2, 0, none⟩) os.length c2) (by first | (go_simp; done) | assumption)
  have k6_2 := bel_keeps hb6 (b := w3.heap.size) (o := 0) (v := .slice b1 PG.length d1) (by first | (go_simp; done) | assumption)
  have k6_3 := bel_keeps hb6 (b := w3.heap.size) (o := 1) (v := .slice b2 PO.length d2) (by first | (go_simp; done) | assumption)
  clear k5_0 k5_1 k5_2 k5_3
  go_wp2_with fail
  refine (iLiveGates_any gs os _ _ _ _ _ hm0 hm1 (HR1.out.below (by (repeat (first | with_reducible exact Below.refl _ _ | (with_reducible refine bel_next ?_ ?_ (by assumption)) | (with_reducible refine Below.alloc ?_ ?_ _) | (with_reducible refine Below.drew ?_) | (with_reducible refine below_drewN ?_ _) | (with_reducible refine Below.setCell ?_ ?_ _))) <;> (first | omega | (simp; done) | (simp; omega)))) (HR2.out.below (by (repeat (first | with_reducible exact Below.refl _ _ | (with_reducible refine bel_next ?_ ?_ (by assumption)) | (with_reducible refine Below.alloc ?_ ?_ _) | (with_reducible refine Below.drew ?_) | (with_reducible refine below_drewN ?_ _) | (with_reducible refine Below.setCell ?_ ?_ _))) <;> (first | omega | (simp; done) | (simp; omega))))).mono ?_
  rintro e w7 ⟨rfl, hb7⟩
  rw [HLN.out]
  have z7 := hb7.size
  (try simp at z7)
  have y7_0 : w1.heap.size < w7.heap.size := (by omega)
  have y7_1 : w3.heap.size < w7.heap.size := (by omega)
  have k7_0 := bel_keeps hb7 (b := w1.heap.size) (o := 0) (v := .slice (some ⟨g1, 0, none⟩) gs.length c1) (by first | (go_simp; done) | assumption)
  have k7_1 := bel_keeps hb7 (b := w1.heap.size) (o := 1) (v := .slice (some ⟨g2, 0, none⟩) os.length c2) (by first | (go_simp; done) | assumption)
  have k7_2 := bel_keeps hb7 (b := w3.heap.size) (o := 0) (v := .slice b1 PG.length d1) (by first | (go_simp; done) | assumption)
  have k7_3 := bel_keeps hb7 (b := w3.heap.size) (o := 1) (v := .slice b2 PO.length d2) (by first | (go_simp; done) | assumption)
  clear k6_0 k6_1 k6_2 k6_3
  go_wp2_with fail
  refine (sCircuitOk_any PG PO _ _ _ _ _ (by omega) (by omega) (HP1.out.below (by (repeat (first | with_reducible exact Below.refl _ _ | (with_reducible refine bel_next ?_ ?_ (by assumption)) | (with_reducible refine Below.alloc ?_ ?_ _) | (with_reducible refine Below.drew ?_) | (with_reducible refine below_drewN ?_ _) | (with_reducible refine Below.setCell ?_ ?_ _))) <;> (first | omega | (simp; done) | (simp; omega)))) (HP2.out.below (by (repeat (first | with_reducible exact Below.refl _ _ | (with_reducible refine bel_next ?_ ?_ (by assumption)) | (with_reducible refine Below.alloc ?_ ?_ _) | (with_reducible refine Below.drew ?_) | (with_reducible refine below_drewN ?_ _) | (with_reducible refine Below.setCell ?_ ?_ _))) <;> (first | omega | (simp; done) | (simp; omega))))).mono ?_
  rintro e w8 ⟨rfl, hb8⟩
  rw [HPK.out]
  have z8 := hb8.size
  (try simp at z8)
  have y8_0 : w1.heap.size < w8.heap.size := (by omega)
  have y8_1 : w3.heap.size < w8.heap.size := (by omega)
  have k8_0 := bel_keeps hb8 (b := w1.heap.size) (o := 0) (v := .slice (some ⟨g1, 0, none⟩) gs.length c1) (by first | (go_simp; done) | assumption)
  have k8_1 := bel_keeps hb8 (b := w1.heap.size) (o := 1) (v := .slice (some ⟨g2, 0, none⟩) os.length c2) (by first | (go_simp; done) | assumption)
  have k8_2 := bel_keeps hb8 (b := w3.heap.size) (o := 0) (v := .slice b1 PG.length d1) (by first | (go_simp; done) | assumption)
  have k8_3 := bel_keeps hb8 (b := w3.heap.size) (o := 1) (v := .slice b2 PO.length d2) (by first | (go_simp; done) | assumption)
  clear k7_0 k7_1 k7_2 k7_3
  obtain ⟨i0, hi, hz0, hz1, hz2⟩ := info_parts info_bool
  go_wp2_with (at_make; refine wpList_make_full _ rfl _ _ 52 rfl w.heap.size 4 i0 (.bool false) 1 Try.underlying52 hi hz0 hz1 .i64 .i64 _ _ PG.length rfl rfl rfl rfl ?b2 ?b3 ?b4 ?_)
  case b2 => rw [hz2]; omega
  case b3 => unfold maxLen; omega
  case b4 => first | omega | (simp; omega)
  intro w9 hown1 hgr1
  (try simp at hown1)
  have hb9 : Below w8.heap.size w8 w9 := (Below.refl _ _).grown hgr1 (Nat.le_refl _) (by simp)
  rw [made_bools] at hown1
  have z9 := hb9.size
  (try simp at z9)
  have y9_0 : w1.heap.size < w9.heap.size := (by omega)
  have y9_1 : w3.heap.size < w9.heap.size := (by omega)
  have k9_0 := bel_keeps hb9 (b := w1.heap.size) (o := 0) (v := .slice (some ⟨g1, 0, none⟩) gs.length c1) (by first | (go_simp; done) | assumption)
  have k9_1 := bel_keeps hb9 (b := w1.heap.size) (o := 1) (v := .slice (some ⟨g2, 0, none⟩) os.length c2) (by first | (go_simp; done) | assumption)
  have k9_2 := bel_keeps hb9 (b := w3.heap.size) (o := 0) (v := .slice b1 PG.length d1) (by first | (go_simp; done) | assumption)
  have k9_3 := bel_keeps hb9 (b := w3.heap.size) (o := 1) (v := .slice b2 PO.length d2) (by first | (go_simp; done) | assumption)
  clear k8_0 k8_1 k8_2 k8_3
  obtain ⟨g, hg⟩ : ∃ g, g = w8.heap.size := ⟨_, rfl⟩
  rw [← hg] at hown1
  rw [← hg]
  have hg1 : w1.heap.size < g := by omega
  have hg2 : w3.heap.size < g := by omega
  have hg3 : w.heap.size ≤ g := by omega
  have hg4 : w8.heap.size ≤ g := by omega
  have hg5 : g ≤ w8.heap.size := by omega
  have hown2 : Own w9 w.heap.size 4 1 (some ⟨g, 0, none⟩) PG.length PG.length (BL (live0 PG.length (PO.take 0))) := hown1
  have HA1 := Lib.hid (show RdC w8 a5 (I64 EO) from O5.out.below (by (repeat (first | with_reducible exact Below.refl _ _ | (with_reducible refine bel_next ?_ ?_ (by assumption)) | (with_reducible refine Below.alloc ?_ ?_ _) | (with_reducible refine Below.drew ?_) | (with_reducible refine below_drewN ?_ _) | (with_reducible refine Below.setCell ?_ ?_ _))) <;> (first | omega | (simp; done) | (simp; omega))))
  have HA2 := Lib.hid (show RdC w8 a6 (I64 EO) from O6.out.below (by (repeat (first | with_reducible exact Below.refl _ _ | (with_reducible refine bel_next ?_ ?_ (by assumption)) | (with_reducible refine Below.alloc ?_ ?_ _) | (with_reducible refine Below.drew ?_) | (with_reducible refine below_drewN ?_ _) | (with_reducible refine Below.setCell ?_ ?_ _))) <;> (first | omega | (simp; done) | (simp; omega))))
  have HQ1 := Lib.hid (show RdC w8 b1 (gtCells PG) from HP1.out.below (by (repeat (first | with_reducible exact Below.refl _ _ | (with_reducible refine bel_next ?_ ?_ (by assumption)) | (with_reducible refine Below.alloc ?_ ?_ _) | (with_reducible refine Below.drew ?_) | (with_reducible refine below_drewN ?_ _) | (with_reducible refine Below.setCell ?_ ?_ _))) <;> (first | omega | (simp; done) | (simp; omega))))
  have HQ2 := Lib.hid (show RdC w8 b2 (I64 PO) from HP2.out.below (by (repeat (first | with_reducible exact Below.refl _ _ | (with_reducible refine bel_next ?_ ?_ (by assumption)) | (with_reducible refine Below.alloc ?_ ?_ _) | (with_reducible refine Below.drew ?_) | (with_reducible refine below_drewN ?_ _) | (with_reducible refine Below.setCell ?_ ?_ _))) <;> (first | omega | (simp; done) | (simp; omega))))
  have hgz := hown2.ge
  have hbw1 : Below w.heap.size w w9 := (by (repeat (first | with_reducible exact Below.refl _ _ | (with_reducible refine bel_next ?_ ?_ (by assumption)) | (with_reducible refine Below.alloc ?_ ?_ _) | (with_reducible refine Below.drew ?_) | (with_reducible refine below_drewN ?_ _) | (with_reducible refine Below.setCell ?_ ?_ _))) <;> (first | omega | (simp; done) | (simp; omega)))
  have hbg1 : Below w8.heap.size w8 w9 := hb9
  clear hg hown1 hgr1
  clear hb1 hb2 hb3 hb4 hb5 hb6 hb7 hb8 hb9
  go_wp2_with fail
  go_loopw [12] (fun i wr => ∃ k : Nat, k ≤ PO.length ∧ i = .int .i64 k ∧ wr.cell? ⟨w1.heap.size, 0, none⟩ = some (.slice (some ⟨g1, 0, none⟩) gs.length c1) ∧ wr.cell? ⟨w1.heap.size, 1, none⟩ = some (.slice (some ⟨g2, 0, none⟩) os.length c2) ∧ wr.cell? ⟨w3.heap.size, 0, none⟩ = some (.slice b1 PG.length d1) ∧ wr.cell? ⟨w3.heap.size, 1, none⟩ = some (.slice b2 PO.length d2) ∧ (Own wr w.heap.size 4 1 (some ⟨g, 0, none⟩) PG.length PG.length (BL (live0 PG.length (PO.take k)))) ∧ Below w.heap.size w wr ∧ Below w8.heap.size w8 wr) (fun i _ => PO.length - (intOf i).toNat)
  case atStart => exact ⟨0, Nat.zero_le _, rfl, k9_0, k9_1, k9_2, k9_3, hown2, hbw1, hbg1⟩
  case round =>
    clear hown2 hbw1 hbg1 k9_0 k9_1 k9_2 k9_3
    obtain ⟨k, hk, rfl, k0, k1, k2, k3, hown, hbw, hbg⟩ := hrel
    have HO := Lib.hid hown
    have zr := hbw.size
    have zg := hbg.size
    have gr := hown.ge
    clear hown
    have na0 : w1.heap.size ≠ wr.heap.size := by omega
    have na1 : w1.heap.size < wr.heap.size := by omega
    have na2 : w3.heap.size ≠ wr.heap.size := by omega
    have na3 : w3.heap.size < wr.heap.size := by omega
    have nb0 : g ≠ wr.heap.size := by omega
    have nb1 : g < wr.heap.size := by omega
    have nb2 : w1.heap.size ≠ g := by omega
    have nb3 : w3.heap.size ≠ g := by omega
    have nb4 : g ≠ w1.heap.size := by omega
    have nb5 : g ≠ w3.heap.size := by omega
    by_cases hlt : k < PO.length
    · obtain ⟨b, off, rfl, hcell⟩ := (HQ2.out.below hbg).at k hlt
      have hc := hcell k hlt
      have hlt' : (k : Int) < (PO.length : Int) := by omega
      have hy := outs_at HPK.out hlt
      have HN := Lib.hid (live0_snoc PG.length hlt)
      obtain ⟨y, hyy⟩ : ∃ y, y = PO[k] := ⟨_, rfl⟩
      rw [← hyy] at hc hy HN
      clear hyy hcell
      obtain ⟨m, rfl⟩ := Int.eq_ofNat_of_zero_le hy.1
      have hm1 : m < PG.length := by omega
      obtain ⟨e1, e2⟩ := HO.out.bool m (by simpa using hm1)
      have hbb := lt_of_cell hc
      simp only at hbb
      rw [Int.toNat_natCast] at HN
      go_wp2_with fail
      go_roundw
      case rel =>
        refine ⟨k + 1, by omega, by go_num, (by first | (go_simp; done) | assumption), (by first | (go_simp; done) | assumption), (by first | (go_simp; done) | assumption), (by first | (go_simp; done) | assumption), ?_, (by (repeat (first | with_reducible assumption | with_reducible exact Below.refl _ _ | (with_reducible refine bel_next ?_ ?_ (by assumption)) | (with_reducible refine Below.alloc ?_ ?_ _) | (with_reducible refine Below.drew ?_) | (with_reducible refine below_drewN ?_ _) | (with_reducible refine Below.setCell ?_ ?_ _))) <;> (first | omega | (simp; done) | (simp; omega))), (by (repeat (first | with_reducible assumption | with_reducible exact Below.refl _ _ | (with_reducible refine bel_next ?_ ?_ (by assumption)) | (with_reducible refine Below.alloc ?_ ?_ _) | (with_reducible refine Below.drew ?_) | (with_reducible refine below_drewN ?_ _) | (with_reducible refine Below.setCell ?_ ?_ _))) <;> (first | omega | (simp; done) | (simp; omega)))⟩
        rw [HN.out]; exact HO.out.putB m true
      case measure => first | (simp [intOf]; done) | (simp [intOf]; omega)
    · have HK : Hid (live0 PG.length (PO.take k) = live0 PG.length PO) := by show _ = _; rw [List.take_of_length_le (by omega)]
      rw [HK.out] at HO
      have hlt' : ¬ (k : Int) < (PO.length : Int) := by omega
      go_wp2_with fail
      go_loopw [13] (fun i w2 => ∃ (k : Nat) (l : List Bool), k ≤ PG.length ∧ i = .int .i64 ((k : Int) - 1) ∧ w2.cell? ⟨w1.heap.size, 0, none⟩ = some (.slice (some ⟨g1, 0, none⟩) gs.length c1) ∧ w2.cell? ⟨w1.heap.size, 1, none⟩ = some (.slice (some ⟨g2, 0, none⟩) os.length c2) ∧ w2.cell? ⟨w3.heap.size, 0, none⟩ = some (.slice b1 PG.length d1) ∧ w2.cell? ⟨w3.heap.size, 1, none⟩ = some (.slice b2 PO.length d2) ∧ l.length = PG.length ∧ liveD PG k l = liveL PG PO ∧
          (Own w2 w.heap.size 4 1 (some ⟨g, 0, none⟩) PG.length PG.length (BL l)) ∧ Below w.heap.size w w2 ∧ Below w8.heap.size w8 w2) (fun i _ => (intOf i + 1).toNat)
      case atStart => exact ⟨PG.length, live0 PG.length PO, Nat.le_refl _, by go_num, k0, k1, k2, k3, by simp, rfl, HO.out, hbw, hbg⟩
      case round =>
        clear k0 k1 k2 k3 zr zg gr HO HK hbw hbg hlt' hlt na0 na1 na2 na3 nb0 nb1
        obtain ⟨k, l, hk2, rfl, k0, k1, k2, k3, hll, hlive, hown, hbw, hbg⟩ := hrel
        have HO := Lib.hid hown
        have HLL := Lib.hid hll
        have HLV := Lib.hid hlive
        have zr := hbw.size
        have zg := hbg.size
        have gr := hown.ge
        clear hown hll hlive
        have na0 : w1.heap.size ≠ wr.heap.size := by omega
        have na1 : w1.heap.size < wr.heap.size := by omega
        have na2 : w3.heap.size ≠ wr.heap.size := by omega
        have na3 : w3.heap.size < wr.heap.size := by omega
        have nb0 : g ≠ wr.heap.size := by omega
        have nb1 : g < wr.heap.size := by omega
        have nb2 : w1.heap.size ≠ g := by omega
        have nb3 : w3.heap.size ≠ g := by omega
        have nb4 : g ≠ w1.heap.size := by omega
        have nb5 : g ≠ w3.heap.size := by omega
        cases k with
        | zero =>
          have hle : ((0 : Nat) : Int) - 1 = -1 := by omega
          rw [hle]
          have hqq : (PG.length : Int) ≤ (gs.length : Int) := by omega
          go_wp2_with fail
          refine (sameInts_same EO EO.length EO.length rfl rfl _ _ _ _ _ (by omega) (HA1.out.below hbg) (HA2.out.below hbg)).mono ?_
          rintro e _ ⟨rfl, nn, rfl⟩
          go_wp2_with fail
          go_ret
          exact ⟨rfl, (by (repeat (first | with_reducible assumption | with_reducible exact Below.refl _ _ | (with_reducible refine bel_next ?_ ?_ (by assumption)) | (with_reducible refine Below.alloc ?_ ?_ _) | (with_reducible refine Below.drew ?_) | (with_reducible refine below_drewN ?_ _) | (with_reducible refine Below.setCell ?_ ?_ _))) <;> (first | omega | (simp; done) | (simp; omega)))⟩
        | succ j =>
          have hle : ((j + 1 : Nat) : Int) - 1 = j := by omega
          rw [hle]
          clear hle
          have hj : j < PG.length := by omega
          obtain ⟨b, off, kd, ga, gb', rfl, hbl, hx, c0, c1', c2'⟩ := (HQ1.out.below hbg).gt j hj
          have hgk : gateOk kd ga gb' j = true := gates_at HPK.out hx
          have hon : bat l j = true := live_on (circ_parts HPK.out).1 hj (by rw [HLV.out]; exact HALL.out j hj)
          have HST : Hid (liveD PG (j + 1) l = liveD PG j (liveStep l ⟨kd, ga, gb'⟩ true)) := by have := liveD_step l hx; rwa [hon] at this
          have hj' : (j : Int) < (PG.length : Int) := by omega
          obtain ⟨e1, e2⟩ := HO.out.bool j (by have := HLL.out; omega)
          rw [hon] at e1
          clear hx hon
          have gcs := gate_cases hgk
          clear hgk
          rcases gcs with ⟨rfl, rfl, q1, q2⟩ | ⟨rfl, rfl, q1, q2⟩ | ⟨rfl, q1, q2, q3, q4⟩ | ⟨rfl, q1, q2, q3, q4⟩ | ⟨rfl, rfl, q1, q2⟩
          · go_wp2_with fail
            go_roundw
            case rel => exact ⟨j, l, by omega, by go_num, (by first | (go_simp; done) | assumption), (by first | (go_simp; done) | assumption), (by first | (go_simp; done) | assumption), (by first | (go_simp; done) | assumption), by first | exact HLL.out | (simp; exact HLL.out), by first | exact HST.out.symm.trans HLV.out | (have hq := HST.out.symm.trans HLV.out; simpa [liveStep, usesA, usesB] using hq), HO.out.alloc _, (by (repeat (first | with_reducible assumption | with_reducible exact Below.refl _ _ | (with_reducible refine bel_next ?_ ?_ (by assumption)) | (with_reducible refine Below.alloc ?_ ?_ _) | (with_reducible refine Below.drew ?_) | (with_reducible refine below_drewN ?_ _) | (with_reducible refine Below.setCell ?_ ?_ _))) <;> (first | omega | (simp; done) | (simp; omega))), (by (repeat (first | with_reducible assumption | with_reducible exact Below.refl _ _ | (with_reducible refine bel_next ?_ ?_ (by assumption)) | (with_reducible refine Below.alloc ?_ ?_ _) | (with_reducible refine Below.drew ?_) | (with_reducible refine below_drewN ?_ _) | (with_reducible refine Below.setCell ?_ ?_ _))) <;> (first | omega | (simp; done) | (simp; omega)))⟩
            case measure => first | (simp [intOf]; done) | (simp [intOf]; omega)
          · go_wp2_with fail
            go_roundw
            case rel => exact ⟨j, l, by omega, by go_num, (by first | (go_simp; done) | assumption), (by first | (go_simp; done) | assumption), (by first | (go_simp; done) | assumption), (by first | (go_simp; done) | assumption), by first | exact HLL.out | (simp; exact HLL.out), by first | exact HST.out.symm.trans HLV.out | (have hq := HST.out.symm.trans HLV.out; simpa [liveStep, usesA, usesB] using hq), HO.out.alloc _, (by (repeat (first | with_reducible assumption | with_reducible exact Below.refl _ _ | (with_reducible refine bel_next ?_ ?_ (by assumption)) | (with_reducible refine Below.alloc ?_ ?_ _) | (with_reducible refine Below.drew ?_) | (with_reducible refine below_drewN ?_ _) | (with_reducible refine Below.setCell ?_ ?_ _))) <;> (first | omega | (simp; done) | (simp; omega))), (by (repeat (first | with_reducible assumption | with_reducible exact Below.refl _ _ | (with_reducible refine bel_next ?_ ?_ (by assumption)) | (with_reducible refine Below.alloc ?_ ?_ _) | (with_reducible refine Below.drew ?_) | (with_reducible refine below_drewN ?_ _) | (with_reducible refine Below.setCell ?_ ?_ _))) <;> (first | omega | (simp; done) | (simp; omega)))⟩
            case measure => first | (simp [intOf]; done) | (simp [intOf]; omega)
          · obtain ⟨n, rfl⟩ := Int.eq_ofNat_of_zero_le q1
            obtain ⟨t1, t2⟩ := HO.out.bool n (by have := HLL.out; omega)
            have n1 : n ≠ j := by omega
            have n2 : j ≠ n := by omega
            have n3 : (n : Int) < (PG.length : Int) := by omega
            obtain ⟨m, rfl⟩ := Int.eq_ofNat_of_zero_le q3
            obtain ⟨t3, t4⟩ := HO.out.bool m (by have := HLL.out; omega)
            have m1 : m ≠ j := by omega
            have m2 : j ≠ m := by omega
            have m3 : (m : Int) < (PG.length : Int) := by omega
            by_cases hnm : m = n
            · subst hnm
              go_wp2_with fail
              go_roundw
              case rel => exact ⟨j, (l.set m true).set m true, by omega, by go_num, (by first | (go_simp; done) | assumption), (by first | (go_simp; done) | assumption), (by first | (go_simp; done) | assumption), (by first | (go_simp; done) | assumption), by first | exact HLL.out | (simp; exact HLL.out), by first | exact HST.out.symm.trans HLV.out | (have hq := HST.out.symm.trans HLV.out; simpa [liveStep, usesA, usesB] using hq), ((HO.out.putB m true).putB m true).alloc _, (by (repeat (first | with_reducible assumption | with_reducible exact Below.refl _ _ | (with_reducible refine bel_next ?_ ?_ (by assumption)) | (with_reducible refine Below.alloc ?_ ?_ _) | (with_reducible refine Below.drew ?_) | (with_reducible refine below_drewN ?_ _) | (with_reducible refine Below.setCell ?_ ?_ _))) <;> (first | omega | (simp; done) | (simp; omega))), (by (repeat (first | with_reducible assumption | with_reducible exact Below.refl _ _ | (with_reducible refine bel_next ?_ ?_ (by assumption)) | (with_reducible refine Below.alloc ?_ ?_ _) | (with_reducible refine Below.drew ?_) | (with_reducible refine below_drewN ?_ _) | (with_reducible refine Below.setCell ?_ ?_ _))) <;> (first | omega | (simp; done) | (simp; omega)))⟩
              case measure => first | (simp [intOf]; done) | (simp [intOf]; omega)
            · have hmn : ¬ n = m := fun e => hnm e.symm
              go_wp2_with fail
              go_roundw
              case rel => exact ⟨j, (l.set n true).set m true, by omega, by go_num, (by first | (go_simp; done) | assumption), (by first | (go_simp; done) | assumption), (by first | (go_simp; done) | assumption), (by first | (go_simp; done) | assumption), by first | exact HLL.out | (simp; exact HLL.out), by first | exact HST.out.symm.trans HLV.out | (have hq := HST.out.symm.trans HLV.out; simpa [liveStep, usesA, usesB] using hq), (set_swap l n m ▸ ((HO.out.putB m true).putB n true).alloc _), (by (repeat (first | with_reducible assumption | with_reducible exact Below.refl _ _ | (with_reducible refine bel_next ?_ ?_ (by assumption)) | (with_reducible refine Below.alloc ?_ ?_ _) | (with_reducible refine Below.drew ?_) | (with_reducible refine below_drewN ?_ _) | (with_reducible refine Below.setCell ?_ ?_ _))) <;> (first | omega | (simp; done) | (simp; omega))), (by (repeat (first | with_reducible assumption | with_reducible exact Below.refl _ _ | (with_reducible refine bel_next ?_ ?_ (by assumption)) | (with_reducible refine Below.alloc ?_ ?_ _) | (with_reducible refine Below.drew ?_) | (with_reducible refine below_drewN ?_ _) | (with_reducible refine Below.setCell ?_ ?_ _))) <;> (first | omega | (simp; done) | (simp; omega)))⟩
              case measure => first | (simp [intOf]; done) | (simp [intOf]; omega)
          · obtain ⟨n, rfl⟩ := Int.eq_ofNat_of_zero_le q1
            obtain ⟨t1, t2⟩ := HO.out.bool n (by have := HLL.out; omega)
            have n1 : n ≠ j := by omega
            have n2 : j ≠ n := by omega
            have n3 : (n : Int) < (PG.length : Int) := by omega
            obtain ⟨m, rfl⟩ := Int.eq_ofNat_of_zero_le q3
            obtain ⟨t3, t4⟩ := HO.out.bool m (by have := HLL.out; omega)
            have m1 : m ≠ j := by omega
            have m2 : j ≠ m := by omega
            have m3 : (m : Int) < (PG.length : Int) := by omega
            by_cases hnm : m = n
            · subst hnm
              go_wp2_with fail
              go_roundw
              case rel => exact ⟨j, (l.set m true).set m true, by omega, by go_num, (by first | (go_simp; done) | assumption), (by first | (go_simp; done) | assumption), (by first | (go_simp; done) | assumption), (by first | (go_simp; done) | assumption), by first | exact HLL.out | (simp; exact HLL.out), by first | exact HST.out.symm.trans HLV.out | (have hq := HST.out.symm.trans HLV.out; simpa [liveStep, usesA, usesB] using hq), ((HO.out.putB m true).putB m true).alloc _, (by (repeat (first | with_reducible assumption | with_reducible exact Below.refl _ _ | (with_reducible refine bel_next ?_ ?_ (by assumption)) | (with_reducible refine Below.alloc ?_ ?_ _) | (with_reducible refine Below.drew ?_) | (with_reducible refine below_drewN ?_ _) | (with_reducible refine Below.setCell ?_ ?_ _))) <;> (first | omega | (simp; done) | (simp; omega))), (by (repeat (first | with_reducible assumption | with_reducible exact Below.refl _ _ | (with_reducible refine bel_next ?_ ?_ (by assumption)) | (with_reducible refine Below.alloc ?_ ?_ _) | (with_reducible refine Below.drew ?_) | (with_reducible refine below_drewN ?_ _) | (with_reducible refine Below.setCell ?_ ?_ _))) <;> (first | omega | (simp; done) | (simp; omega)))⟩
              case measure => first | (simp [intOf]; done) | (simp [intOf]; omega)
            · have hmn : ¬ n = m := fun e => hnm e.symm
              go_wp2_with fail
              go_roundw
              case rel => exact ⟨j, (l.set n true).set m true, by omega, by go_num, (by first | (go_simp; done) | assumption), (by first | (go_simp; done) | assumption), (by first | (go_simp; done) | assumption), (by first | (go_simp; done) | assumption), by first | exact HLL.out | (simp; exact HLL.out), by first | exact HST.out.symm.trans HLV.out | (have hq := HST.out.symm.trans HLV.out; simpa [liveStep, usesA, usesB] using hq), (set_swap l n m ▸ ((HO.out.putB m true).putB n true).alloc _), (by (repeat (first | with_reducible assumption | with_reducible exact Below.refl _ _ | (with_reducible refine bel_next ?_ ?_ (by assumption)) | (with_reducible refine Below.alloc ?_ ?_ _) | (with_reducible refine Below.drew ?_) | (with_reducible refine below_drewN ?_ _) | (with_reducible refine Below.setCell ?_ ?_ _))) <;> (first | omega | (simp; done) | (simp; omega))), (by (repeat (first | with_reducible assumption | with_reducible exact Below.refl _ _ | (with_reducible refine bel_next ?_ ?_ (by assumption)) | (with_reducible refine Below.alloc ?_ ?_ _) | (with_reducible refine Below.drew ?_) | (with_reducible refine below_drewN ?_ _) | (with_reducible refine Below.setCell ?_ ?_ _))) <;> (first | omega | (simp; done) | (simp; omega)))⟩
              case measure => first | (simp [intOf]; done) | (simp [intOf]; omega)
          · obtain ⟨n, rfl⟩ := Int.eq_ofNat_of_zero_le q1
            obtain ⟨t1, t2⟩ := HO.out.bool n (by have := HLL.out; omega)
            have n1 : n ≠ j := by omega
            have n2 : j ≠ n := by omega
            have n3 : (n : Int) < (PG.length : Int) := by omega
            go_wp2_with fail
            go_roundw
            case rel => exact ⟨j, l.set n true, by omega, by go_num, (by first | (go_simp; done) | assumption), (by first | (go_simp; done) | assumption), (by first | (go_simp; done) | assumption), (by first | (go_simp; done) | assumption), by first | exact HLL.out | (simp; exact HLL.out), by first | exact HST.out.symm.trans HLV.out | (have hq := HST.out.symm.trans HLV.out; simpa [liveStep, usesA, usesB] using hq), (HO.out.putB n true).alloc _, (by (repeat (first | with_reducible assumption | with_reducible exact Below.refl _ _ | (with_reducible refine bel_next ?_ ?_ (by assumption)) | (with_reducible refine Below.alloc ?_ ?_ _) | (with_reducible refine Below.drew ?_) | (with_reducible refine below_drewN ?_ _) | (with_reducible refine Below.setCell ?_ ?_ _))) <;> (first | omega | (simp; done) | (simp; omega))), (by (repeat (first | with_reducible assumption | with_reducible exact Below.refl _ _ | (with_reducible refine bel_next ?_ ?_ (by assumption)) | (with_reducible refine Below.alloc ?_ ?_ _) | (with_reducible refine Below.drew ?_) | (with_reducible refine below_drewN ?_ _) | (with_reducible refine Below.setCell ?_ ?_ _))) <;> (first | omega | (simp; done) | (simp; omega)))⟩
            case measure => first | (simp [intOf]; done) | (simp [intOf]; omega)
end Go.Proofs.Ytfpblgbokmpmjaa

/- The walk of the law FnSimplified. -/
import Derived.Test.YtfpblgbokmpmjaaDrCircD
import Derived.Test.YtfpblgbokmpmjaaOpt
import Derived.Test.YtfpblgbokmpmjaaEval
import Derived.Test.YtfpblgbokmpmjaaSameC
import Derived.Test.YtfpblgbokmpmjaaShare
import Derived.Test.YtfpblgbokmpmjaaCircFacts
import Derived.Deep.RegionHeld3
import Derived.Deep.RegionLaw
namespace Go.Proofs.Ytfpblgbokmpmjaa
open Go.RowKit
set_option linter.unusedVariables false
set_option linter.unusedSimpArgs false
theorem prune_same {G : List Gt} {O : List Int} (hG : prG G O = G) (hO : prO G O = O) (a1 a2 : Option Addr) (c1 c2 : Nat) (w : World) (hm : G.length ≤ 1048576) (hm2 : O.length ≤ 1048576) (hr : RdC w a1 (gtCells G)) (hr2 : RdC w a2 (I64 O)) :
    Calls Try.prog 38 #[.agg #[.slice a1 G.length c1, .slice a2 O.length c2]] w fun e w' => ∃ b1 d1 b2 d2, e = .returned (.agg #[.slice b1 G.length d1, .slice b2 O.length d2]) ∧
      Own w' w.heap.size 50 3 b1 G.length d1 (gtCells G) ∧ Own w' w.heap.size 3 1 b2 O.length d2 (I64 O) ∧ (∀ x y, b1 = some x → b2 = some y → x.block ≠ y.block) ∧ Below w.heap.size w w' := by
  have := iPrune_any G O a1 a2 c1 c2 w hm hm2 hr hr2
  rwa [hG, hO] at this
set_option maxRecDepth 20000 in
set_option maxHeartbeats 16000000 in
theorem walk_FnSimplified (w : World) (xs : List Int) (ad : Option Addr) (c : Nat) (hm : xs.length ≤ maxLen) (hr : RdC w ad (xs.map (Value.int .u8))) (hb : ∀ x ∈ xs, 0 ≤ x ∧ x ≤ 255) :
    Calls Try.prog 15 #[.slice ad xs.length c] w fun e w' => e = .returned (.bool true) ∧ Below w.heap.size w w' := by
  unfold maxLen at hm
  by_cases hsz : xs.length ≤ 1048576
  case neg =>
    go_enter Try.func15, Try.ntmps15
    go_wp2_with (first | (go_at_call 44; go_in) | fail)
    go_ret
    exact ⟨rfl, Below.refl _ _⟩
  go_enter Try.func15, Try.ntmps15
  go_wp2_with (first | (go_at_call 44; go_in) | fail)
  refine (DrawCircuit_any xs ad c w hsz hr hb).mono ?_
  rintro e w1 ⟨g1, c1, g2, c2, gb, cb, gs, os, bs, rfl, hdc, hbits, ho1, ho2, hob, hne, hb1⟩
  have hgl1 := hdc.g1
  have hgl2 := hdc.g2
  have hol1 := hdc.o1
  have hol2 := hdc.o2
  have hm0 : gs.length ≤ 1048576 := by omega
  have hm1 : os.length ≤ 1048576 := by omega
  have HOKC := Lib.hid hdc.ok
  have HBITS := Lib.hid hbits
  have HR1 := Lib.hid ho1.rd
  have HR2 := Lib.hid ho2.rd
  have HRB := Lib.hid hob.rd
  have z1 := hb1.size
  have ge1 := ho1.ge
  have ge2 := ho2.ge
  have geb := hob.ge
  have HO1 := Lib.hid ho1
  have HO2 := Lib.hid ho2
  clear hdc hbits ho1 ho2 hob hr hb
  have hok := HOKC.out
  have hok2 : circOk (simpG gs) (simpO gs os) = true := simp_ok hok
  obtain ⟨SG, hSG⟩ : ∃ x, x = smG gs os := ⟨_, rfl⟩
  obtain ⟨SO, hSO⟩ : ∃ x, x = smO gs os := ⟨_, rfl⟩
  obtain ⟨YG, hYG⟩ : ∃ x, x = opG gs os := ⟨_, rfl⟩
  obtain ⟨YO, hYO⟩ : ∃ x, x = opO gs os := ⟨_, rfl⟩
  have eSG : SG = simpG gs := by rw [hSG]; simp [smG, hok]
  have eSO : SO = simpO gs os := by rw [hSO]; simp [smO, hok]
  have eYG : YG = pruneG SG SO := by rw [hYG]; unfold opG prG; rw [← hSG, ← hSO, eSG, eSO, hok2]; rfl
  have eYO : YO = pruneO SG SO := by rw [hYO]; unfold opO prO; rw [← hSG, ← hSO, eSG, eSO, hok2]; rfl
  have hokS : circOk SG SO = true := by rw [eSG, eSO]; exact hok2
  have hokY : circOk YG YO = true := by rw [eYG, eYO]; exact prune_ok hokS
  have hl1 : SG.length ≤ gs.length := by rw [eSG]; exact simp_len hok
  have hl2 : SO.length = os.length := by rw [eSO]; simp [simpO]
  have hl3 : YG.length ≤ SG.length := by rw [eYG]; exact pruneG_len _ _
  have hl4 : YO.length = os.length := by rw [eYO]; simp [pruneO, hl2]
  have hl2' : SO.length ≤ 4 := by omega
  have hl4' : YO.length ≤ 4 := by omega
  have hcn : cntG 4 SG ≤ cntG 4 gs := by rw [eSG]; exact simp_cnt hok
  obtain ⟨n1, hn1⟩ : ∃ n, n = cntG 4 SG := ⟨_, rfl⟩
  obtain ⟨n2, hn2⟩ : ∃ n, n = cntG 4 gs := ⟨_, rfl⟩
  rw [← hn1, ← hn2] at hcn
  have hcz : (n1 : Int) ≤ (n2 : Int) := by omega
  have hlz : (YG.length : Int) ≤ (SG.length : Int) := by omega
  have HN1 := Lib.hid hn1
  have HN2 := Lib.hid hn2
  have HSG := Lib.hid hSG
  have HSO := Lib.hid hSO
  have HYG := Lib.hid hYG
  have HYO := Lib.hid hYO
  have HPG : Hid (prG YG YO = YG) := by show _ = _; unfold prG; rw [if_pos hokY, eYG, eYO]; exact (prune_prune hokS).1
  have HPO : Hid (prO YG YO = YO) := by show _ = _; unfold prO; rw [if_pos hokY, eYG, eYO]; exact (prune_prune hokS).2
  have HE1 : Hid (evalOuts SG SO bs = evalOuts gs os bs) := by show _ = _; rw [eSG, eSO]; exact (simp_eval hok bs).1
  have HE2 : Hid (evalOuts YG YO bs = evalOuts gs os bs) := by show _ = _; rw [eYG, eYO]; exact (prune_eval hokS bs).1.trans HE1.out
  have HB1 : Hid (evalB gs os bs = true) := by show _ = _; unfold evalB; rw [hok, HBITS.out]; rfl
  have HB2 : Hid (evalB SG SO bs = true) := by show _ = _; unfold evalB; rw [hokS, HBITS.out]; rfl
  have HB3 : Hid (evalB YG YO bs = true) := by show _ = _; unfold evalB; rw [hokY, HBITS.out]; rfl
  obtain ⟨EO, hEO⟩ : ∃ x, x = evalOuts gs os bs := ⟨_, rfl⟩
  have hEL : EO.length ≤ 4 := by rw [hEO]; have := evalOuts_len gs os bs; omega
  have HEO := Lib.hid hEO
  have hbl : bs.length = 80 := by have := HBITS.out; simp only [bitsB, Bool.and_eq_true, decide_eq_true_eq] at this; exact this.1
  have hmb : bs.length ≤ 1048576 := by omega
  clear hok hok2 hSG hSO hYG hYO eSG eSO eYG eYO hokS hokY hn1 hn2 hcn hEO hbl hl2 hl4
  go_wp2_with fail
  obtain ⟨w2, hw2⟩ : ∃ W, W = w1.alloc (.cells #[.slice (some ⟨g1, 0, none⟩) gs.length c1, .slice (some ⟨g2, 0, none⟩) os.length c2] 30) := ⟨_, rfl⟩
  rw [← hw2]
  have hb2 : Below w1.heap.size w1 w2 := by rw [hw2]; exact (Below.refl _ _).alloc (Nat.le_refl _) _
  have x2 : w1.heap.size < w2.heap.size := by rw [hw2]; simp
  have z2 := hb2.size
  (try simp at z2)
  have kb2_0 : w2.cell? ⟨w1.heap.size, 0, none⟩ = some (.slice (some ⟨g1, 0, none⟩) gs.length c1) := by rw [hw2]; go_simp
  have kb2_1 : w2.cell? ⟨w1.heap.size, 1, none⟩ = some (.slice (some ⟨g2, 0, none⟩) os.length c2) := by rw [hw2]; go_simp
  clear hw2
  go_wp2_with fail
  have hcc := iSimplify_any gs os (some ⟨g1, 0, none⟩) (some ⟨g2, 0, none⟩) c1 c2 w2 hm0 hm1 (HR1.out.below (by (repeat (first | with_reducible exact Below.refl _ _ | (with_reducible refine bel_next ?_ ?_ (by assumption)) | (with_reducible refine Below.alloc ?_ ?_ _) | (with_reducible refine Below.drew ?_) | (with_reducible refine below_drewN ?_ _) | (with_reducible refine Below.setCell ?_ ?_ _))) <;> (first | omega | (simp; done) | (simp; omega)))) (HR2.out.below (by (repeat (first | with_reducible exact Below.refl _ _ | (with_reducible refine bel_next ?_ ?_ (by assumption)) | (with_reducible refine Below.alloc ?_ ?_ _) | (with_reducible refine Below.drew ?_) | (with_reducible refine below_drewN ?_ _) | (with_reducible refine Below.setCell ?_ ?_ _))) <;> (first | omega | (simp; done) | (simp; omega))))
  rw [← HSG.out, ← HSO.out] at hcc
  refine hcc.mono ?_
  clear hcc
  rintro e w3 ⟨b1, d1, b2, d2, rfl, hp1, hp2, hpn, hb3⟩
  have HX1 := Lib.hid hp1.rd
  have HX2 := Lib.hid hp2.rd
  clear hp1 hp2 hpn
  have z3 := hb3.size
  (try simp at z3)
  have y3_0 : w1.heap.size < w3.heap.size := (by omega)
  have k3_0 := bel_keeps hb3 (b := w1.heap.size) (o := 0) (v := .slice (some ⟨g1, 0, none⟩) gs.length c1) (by first | (go_simp; done) | assumption)
  have k3_1 := bel_keeps hb3 (b := w1.heap.size) (o := 1) (v := .slice (some ⟨g2, 0, none⟩) os.length c2) (by first | (go_simp; done) | assumption)
  clear kb2_0 kb2_1
  go_wp2_with fail
  obtain ⟨w4, hw4⟩ : ∃ W, W = w3.alloc (.cells #[.slice b1 SG.length d1, .slice b2 SO.length d2] 30) := ⟨_, rfl⟩
  rw [← hw4]
  have hb4 : Below w3.heap.size w3 w4 := by rw [hw4]; exact (Below.refl _ _).alloc (Nat.le_refl _) _
  have x4 : w3.heap.size < w4.heap.size := by rw [hw4]; simp
  have z4 := hb4.size
  (try simp at z4)
  have y4_0 : w1.heap.size < w4.heap.size := (by omega)
  have k4_0 := bel_keeps hb4 (b := w1.heap.size) (o := 0) (v := .slice (some ⟨g1, 0, none⟩) gs.length c1) (by first | (go_simp; done) | assumption)
  have k4_1 := bel_keeps hb4 (b := w1.heap.size) (o := 1) (v := .slice (some ⟨g2, 0, none⟩) os.length c2) (by first | (go_simp; done) | assumption)
  clear k3_0 k3_1
  have kb4_0 : w4.cell? ⟨w3.heap.size, 0, none⟩ = some (.slice b1 SG.length d1) := by rw [hw4]; go_simp
  have kb4_1 : w4.cell? ⟨w3.heap.size, 1, none⟩ = some (.slice b2 SO.length d2) := by rw [hw4]; go_simp
  clear hw4
  go_wp2_with fail
  have hcc := iOptimize_any gs os (some ⟨g1, 0, none⟩) (some ⟨g2, 0, none⟩) c1 c2 w4 hm0 hm1 (HR1.out.below (by (repeat (first | with_reducible exact Below.refl _ _ | (with_reducible refine bel_next ?_ ?_ (by assumption)) | (with_reducible refine Below.alloc ?_ ?_ _) | (with_reducible refine Below.drew ?_) | (with_reducible refine below_drewN ?_ _) | (with_reducible refine Below.setCell ?_ ?_ _))) <;> (first | omega | (simp; done) | (simp; omega)))) (HR2.out.below (by (repeat (first | with_reducible exact Below.refl _ _ | (with_reducible refine bel_next ?_ ?_ (by assumption)) | (with_reducible refine Below.alloc ?_ ?_ _) | (with_reducible refine Below.drew ?_) | (with_reducible refine below_drewN ?_ _) | (with_reducible refine Below.setCell ?_ ?_ _))) <;> (first | omega | (simp; done) | (simp; omega))))
  rw [← HYG.out, ← HYO.out] at hcc
  refine hcc.mono ?_
  clear hcc
  rintro e w5 ⟨b3, d3, b4, d4, rfl, hp1, hp2, hpn, hb5⟩
  have HY1 := Lib.hid hp1.rd
  have HY2 := Lib.hid hp2.rd
  clear hp1 hp2 hpn
  have z5 := hb5.size
  (try simp at z5)
  have y5_0 : w1.heap.size < w5.heap.size := (by omega)
  have y5_1 : w3.heap.size < w5.heap.size := (by omega)
  have k5_0 := bel_keeps hb5 (b := w1.heap.size) (o := 0) (v := .slice (some ⟨g1, 0, none⟩) gs.length c1) (by first | (go_simp; done) | assumption)
  have k5_1 := bel_keeps hb5 (b := w1.heap.size) (o := 1) (v := .slice (some ⟨g2, 0, none⟩) os.length c2) (by first | (go_simp; done) | assumption)
  have k5_2 := bel_keeps hb5 (b := w3.heap.size) (o := 0) (v := .slice b1 SG.length d1) (by first | (go_simp; done) | assumption)
  have k5_3 := bel_keeps hb5 (b := w3.heap.size) (o := 1) (v := .slice b2 SO.length d2) (by first | (go_simp; done) | assumption)
  clear k4_0 k4_1 kb4_0 kb4_1
  go_wp2_with fail
  obtain ⟨w6, hw6⟩ : ∃ W, W = w5.alloc (.cells #[.slice b3 YG.length d3, .slice b4 YO.length d4] 30) := ⟨_, rfl⟩
  rw [← hw6]
  have hb6 : Below w5.heap.size w5 w6 := by rw [hw6]; exact (Below.refl _ _).alloc (Nat.le_refl _) _
  have x6 : w5.heap.size < w6.heap.size := by rw [hw6]; simp
  have z6 := hb6.size
  (try simp at z6)
  have y6_0 : w1.heap.size < w6.heap.size := (by omega)
  have y6_1 : w3.heap.size < w6.heap.size := (by omega)
  have k6_0 := bel_keeps hb6 (b := w1.heap.size) (o := 0) (v := .slice (some ⟨g1, 0, none⟩) gs.length c1) (by first | (go_simp; done) | assumption)
  have k6_1 := bel_keeps hb6 (b := w1.heap.size) (o := 1) (v := .slice (some ⟨g2, 0, none⟩) os.length c2) (by first | (go_simp; done) | assumption)
  have k6_2 := bel_keeps hb6 (b := w3.heap.size) (o := 0) (v := .slice b1 SG.length d1) (by first | (go_simp; done) | assumption)
  have k6_3 := bel_keeps hb6 (b := w3.heap.size) (o := 1) (v := .slice b2 SO.length d2) (by first | (go_simp; done) | assumption)
  clear k5_0 k5_1 k5_2 k5_3
  have kb6_0 : w6.cell? ⟨w5.heap.size, 0, none⟩ = some (.slice b3 YG.length d3) := by rw [hw6]; go_simp
  have kb6_1 : w6.cell? ⟨w5.heap.size, 1, none⟩ = some (.slice b4 YO.length d4) := by rw [hw6]; go_simp
  clear hw6
  go_wp2_with fail
  have hcc := sEvalCircuit_any gs os bs (some ⟨g1, 0, none⟩) (some ⟨g2, 0, none⟩) (some ⟨gb, 0, none⟩) c1 c2 cb w6 hm0 hm1 hmb (HR1.out.below (by (repeat (first | with_reducible exact Below.refl _ _ | (with_reducible refine bel_next ?_ ?_ (by assumption)) | (with_reducible refine Below.alloc ?_ ?_ _) | (with_reducible refine Below.drew ?_) | (with_reducible refine below_drewN ?_ _) | (with_reducible refine Below.setCell ?_ ?_ _))) <;> (first | omega | (simp; done) | (simp; omega)))) (HR2.out.below (by (repeat (first | with_reducible exact Below.refl _ _ | (with_reducible refine bel_next ?_ ?_ (by assumption)) | (with_reducible refine Below.alloc ?_ ?_ _) | (with_reducible refine Below.drew ?_) | (with_reducible refine below_drewN ?_ _) | (with_reducible refine Below.setCell ?_ ?_ _))) <;> (first | omega | (simp; done) | (simp; omega)))) (HRB.out.below (by (repeat (first | with_reducible exact Below.refl _ _ | (with_reducible refine bel_next ?_ ?_ (by assumption)) | (with_reducible refine Below.alloc ?_ ?_ _) | (with_reducible refine Below.drew ?_) | (with_reducible refine below_drewN ?_ _) | (with_reducible refine Below.setCell ?_ ?_ _))) <;> (first | omega | (simp; done) | (simp; omega))))
  rw [HB1.out, ← HEO.out] at hcc
  refine hcc.mono ?_
  clear hcc
  rintro e w7 ⟨a7, c7, rfl, o7, hb7⟩
  have O7 := Lib.hid o7.rd
  clear o7
  have z7 := hb7.size
  (try simp at z7)
  have y7_0 : w1.heap.size < w7.heap.size := (by omega)
  have y7_1 : w3.heap.size < w7.heap.size := (by omega)
  have y7_2 : w5.heap.size < w7.heap.size := (by omega)
  have k7_0 := bel_keeps hb7 (b := w1.heap.size) (o := 0) (v := .slice (some ⟨g1, 0, none⟩) gs.length c1) (by first | (go_simp; done) | assumption)
  have k7_1 := bel_keeps hb7 (b := w1.heap.size) (o := 1) (v := .slice (some ⟨g2, 0, none⟩) os.length c2) (by first | (go_simp; done) | assumption)
  have k7_2 := bel_keeps hb7 (b := w3.heap.size) (o := 0) (v := .slice b1 SG.length d1) (by first | (go_simp; done) | assumption)
  have k7_3 := bel_keeps hb7 (b := w3.heap.size) (o := 1) (v := .slice b2 SO.length d2) (by first | (go_simp; done) | assumption)
  have k7_4 := bel_keeps hb7 (b := w5.heap.size) (o := 0) (v := .slice b3 YG.length d3) (by first | (go_simp; done) | assumption)
  have k7_5 := bel_keeps hb7 (b := w5.heap.size) (o := 1) (v := .slice b4 YO.length d4) (by first | (go_simp; done) | assumption)
  clear k6_0 k6_1 k6_2 k6_3 kb6_0 kb6_1
  go_wp2_with fail
  have hcc := iEvalCircuit_any SG SO bs b1 b2 (some ⟨gb, 0, none⟩) d1 d2 cb w7 (by omega) (by omega) hmb (HX1.out.below (by (repeat (first | with_reducible exact Below.refl _ _ | (with_reducible refine bel_next ?_ ?_ (by assumption)) | (with_reducible refine Below.alloc ?_ ?_ _) | (with_reducible refine Below.drew ?_) | (with_reducible refine below_drewN ?_ _) | (with_reducible refine Below.setCell ?_ ?_ _))) <;> (first | omega | (simp; done) | (simp; omega)))) (HX2.out.below (by (repeat (first | with_reducible exact Below.refl _ _ | (with_reducible refine bel_next ?_ ?_ (by assumption)) | (with_reducible refine Below.alloc ?_ ?_ _) | (with_reducible refine Below.drew ?_) | (with_reducible refine below_drewN ?_ _) | (with_reducible refine Below.setCell ?_ ?_ _))) <;> (first | omega | (simp; done) | (simp; omega)))) (HRB.out.below (by (repeat (first | with_reducible exact Below.refl _ _ | (with_reducible refine bel_next ?_ ?_ (by assumption)) | (with_reducible refine Below.alloc ?_ ?_ _) | (with_reducible refine Below.drew ?_) | (with_reducible refine below_drewN ?_ _) | (with_reducible refine Below.setCell ?_ ?_ _))) <;> (first | omega | (simp; done) | (simp; omega))))
  rw [HB2.out, HE1.out, ← HEO.out] at hcc
  refine hcc.mono ?_
  clear hcc
  rintro e w8 ⟨a8, c8, rfl, o8, hb8⟩
  have O8 := Lib.hid o8.rd
  clear o8
  have z8 := hb8.size
  (try simp at z8)
  have y8_0 : w1.heap.size < w8.heap.size := (by omega)
  have y8_1 : w3.heap.size < w8.heap.size := (by omega)
  have y8_2 : w5.heap.size < w8.heap.size := (by omega)
  have k8_0 := bel_keeps hb8 (b := w1.heap.size) (o := 0) (v := .slice (some ⟨g1, 0, none⟩) gs.length c1) (by first | (go_simp; done) | assumption)
  have k8_1 := bel_keeps hb8 (b := w1.heap.size) (o := 1) (v := .slice (some ⟨g2, 0, none⟩) os.length c2) (by first | (go_simp; done) | assumption)
  have k8_2 := bel_keeps hb8 (b := w3.heap.size) (o := 0) (v := .slice b1 SG.length d1) (by first | (go_simp; done) | assumption)
  have k8_3 := bel_keeps hb8 (b := w3.heap.size) (o := 1) (v := .slice b2 SO.length d2) (by first | (go_simp; done) | assumption)
  have k8_4 := bel_keeps hb8 (b := w5.heap.size) (o := 0) (v := .slice b3 YG.length d3) (by first | (go_simp; done) | assumption)
  have k8_5 := bel_keeps hb8 (b := w5.heap.size) (o := 1) (v := .slice b4 YO.length d4) (by first | (go_simp; done) | assumption)
  clear k7_0 k7_1 k7_2 k7_3 k7_4 k7_5
  go_wp2_with fail
  have hcc := iEvalCircuit_any YG YO bs b3 b4 (some ⟨gb, 0, none⟩) d3 d4 cb w8 (by omega) (by omega) hmb (HY1.out.below (by (repeat (first | with_reducible exact Below.refl _ _ | (with_reducible refine bel_next ?_ ?_ (by assumption)) | (with_reducible refine Below.alloc ?_ ?_ _) | (with_reducible refine Below.drew ?_) | (with_reducible refine below_drewN ?_ _) | (with_reducible refine Below.setCell ?_ ?_ _))) <;> (first | omega | (simp; done) | (simp; omega)))) (HY2.out.below (by (repeat (first | with_reducible exact Below.refl _ _ | (with_reducible refine bel_next ?_ ?_ (by assumption)) | (with_reducible refine Below.alloc ?_ ?_ _) | (with_reducible refine Below.drew ?_) | (with_reducible refine below_drewN ?_ _) | (with_reducible refine Below.setCell ?_ ?_ _))) <;> (first | omega | (simp; done) | (simp; omega)))) (HRB.out.below (by (repeat (first | with_reducible exact Below.refl _ _ | (with_reducible refine bel_next ?_ ?_ (by assumption)) | (with_reducible refine Below.alloc ?_ ?_ _) | (with_reducible refine Below.drew ?_) | (with_reducible refine below_drewN ?_ _) | (with_reducible refine Below.setCell ?_ ?_ _))) <;> (first | omega | (simp; done) | (simp; omega))))
  rw [HB3.out, HE2.out, ← HEO.out] at hcc
  refine hcc.mono ?_
  clear hcc
  rintro e w9 ⟨a9, c9, rfl, o9, hb9⟩
  have O9 := Lib.hid o9.rd
  clear o9
  have z9 := hb9.size
  (try simp at z9)
  have y9_0 : w1.heap.size < w9.heap.size := (by omega)
  have y9_1 : w3.heap.size < w9.heap.size := (by omega)
  have y9_2 : w5.heap.size < w9.heap.size := (by omega)
  have k9_0 := bel_keeps hb9 (b := w1.heap.size) (o := 0) (v := .slice (some ⟨g1, 0, none⟩) gs.length c1) (by first | (go_simp; done) | assumption)
  have k9_1 := bel_keeps hb9 (b := w1.heap.size) (o := 1) (v := .slice (some ⟨g2, 0, none⟩) os.length c2) (by first | (go_simp; done) | assumption)
  have k9_2 := bel_keeps hb9 (b := w3.heap.size) (o := 0) (v := .slice b1 SG.length d1) (by first | (go_simp; done) | assumption)
  have k9_3 := bel_keeps hb9 (b := w3.heap.size) (o := 1) (v := .slice b2 SO.length d2) (by first | (go_simp; done) | assumption)
  have k9_4 := bel_keeps hb9 (b := w5.heap.size) (o := 0) (v := .slice b3 YG.length d3) (by first | (go_simp; done) | assumption)
  have k9_5 := bel_keeps hb9 (b := w5.heap.size) (o := 1) (v := .slice b4 YO.length d4) (by first | (go_simp; done) | assumption)
  clear k8_0 k8_1 k8_2 k8_3 k8_4 k8_5
  go_wp2_with fail
  have hlt179 : w1.heap.size < w9.heap.size := by omega
  have hlt180 : w3.heap.size < w9.heap.size := by omega
  have hlt181 : w5.heap.size < w9.heap.size := by omega
  go_region_held3 (fun w' => w'.cell? ⟨w1.heap.size, 0, none⟩ = some (.slice (some ⟨g1, 0, none⟩) gs.length c1) ∧ w'.cell? ⟨w1.heap.size, 1, none⟩ = some (.slice (some ⟨g2, 0, none⟩) os.length c2) ∧ w'.cell? ⟨w3.heap.size, 0, none⟩ = some (.slice b1 SG.length d1) ∧ w'.cell? ⟨w3.heap.size, 1, none⟩ = some (.slice b2 SO.length d2) ∧ w'.cell? ⟨w5.heap.size, 0, none⟩ = some (.slice b3 YG.length d3) ∧ w'.cell? ⟨w5.heap.size, 1, none⟩ = some (.slice b4 YO.length d4))
    (first | go_keep)
    (first | (go_at_call 47; first | ((with_reducible refine (sameInts_bel EO _ _ rfl rfl a7 a8 _ _ _ (by omega) (O7.out.below (by (repeat (first | with_reducible exact Below.refl _ _ | (with_reducible refine bel_next ?_ ?_ (by assumption)) | (with_reducible refine Below.alloc ?_ ?_ _) | (with_reducible refine Below.drew ?_) | (with_reducible refine below_drewN ?_ _) | (with_reducible refine Below.setCell ?_ ?_ _))) <;> (first | omega | (simp; done) | (simp; omega)))) (O8.out.below (by (repeat (first | with_reducible exact Below.refl _ _ | (with_reducible refine bel_next ?_ ?_ (by assumption)) | (with_reducible refine Below.alloc ?_ ?_ _) | (with_reducible refine Below.drew ?_) | (with_reducible refine below_drewN ?_ _) | (with_reducible refine Below.setCell ?_ ?_ _))) <;> (first | omega | (simp; done) | (simp; omega))))).mono ?_); rintro e v1 ⟨rfl, hv1⟩; have zv1 := hv1.size; (try simp at zv1); have kv1_0 := bel_keeps hv1 (b := w1.heap.size) (o := 0) (v := .slice (some ⟨g1, 0, none⟩) gs.length c1) (by first | (go_simp; done) | assumption); have kv1_1 := bel_keeps hv1 (b := w1.heap.size) (o := 1) (v := .slice (some ⟨g2, 0, none⟩) os.length c2) (by first | (go_simp; done) | assumption); have kv1_2 := bel_keeps hv1 (b := w3.heap.size) (o := 0) (v := .slice b1 SG.length d1) (by first | (go_simp; done) | assumption); have kv1_3 := bel_keeps hv1 (b := w3.heap.size) (o := 1) (v := .slice b2 SO.length d2) (by first | (go_simp; done) | assumption); have kv1_4 := bel_keeps hv1 (b := w5.heap.size) (o := 0) (v := .slice b3 YG.length d3) (by first | (go_simp; done) | assumption); have kv1_5 := bel_keeps hv1 (b := w5.heap.size) (o := 1) (v := .slice b4 YO.length d4) (by first | (go_simp; done) | assumption)) | ((with_reducible refine (sameInts_bel EO _ _ rfl rfl a7 a9 _ _ _ (by omega) (O7.out.below (by (repeat (first | with_reducible exact Below.refl _ _ | (with_reducible refine bel_next ?_ ?_ (by assumption)) | (with_reducible refine Below.alloc ?_ ?_ _) | (with_reducible refine Below.drew ?_) | (with_reducible refine below_drewN ?_ _) | (with_reducible refine Below.setCell ?_ ?_ _))) <;> (first | omega | (simp; done) | (simp; omega)))) (O9.out.below (by (repeat (first | with_reducible exact Below.refl _ _ | (with_reducible refine bel_next ?_ ?_ (by assumption)) | (with_reducible refine Below.alloc ?_ ?_ _) | (with_reducible refine Below.drew ?_) | (with_reducible refine below_drewN ?_ _) | (with_reducible refine Below.setCell ?_ ?_ _))) <;> (first | omega | (simp; done) | (simp; omega))))).mono ?_); rintro e v2 ⟨rfl, hv2⟩; have zv2 := hv2.size; (try simp at zv2); have kv2_0 := bel_keeps hv2 (b := w1.heap.size) (o := 0) (v := .slice (some ⟨g1, 0, none⟩) gs.length c1) (by first | (go_simp; done) | assumption); have kv2_1 := bel_keeps hv2 (b := w1.heap.size) (o := 1) (v := .slice (some ⟨g2, 0, none⟩) os.length c2) (by first | (go_simp; done) | assumption); have kv2_2 := bel_keeps hv2 (b := w3.heap.size) (o := 0) (v := .slice b1 SG.length d1) (by first | (go_simp; done) | assumption); have kv2_3 := bel_keeps hv2 (b := w3.heap.size) (o := 1) (v := .slice b2 SO.length d2) (by first | (go_simp; done) | assumption); have kv2_4 := bel_keeps hv2 (b := w5.heap.size) (o := 0) (v := .slice b3 YG.length d3) (by first | (go_simp; done) | assumption); have kv2_5 := bel_keeps hv2 (b := w5.heap.size) (o := 1) (v := .slice b4 YO.length d4) (by first | (go_simp; done) | assumption))) | (go_at_call 20; refine (iCountGates_any SG SO 4 _ _ _ _ _ (by omega) (HX1.out.below (by (repeat (first | with_reducible exact Below.refl _ _ | (with_reducible refine bel_next ?_ ?_ (by assumption)) | (with_reducible refine Below.alloc ?_ ?_ _) | (with_reducible refine Below.drew ?_) | (with_reducible refine below_drewN ?_ _) | (with_reducible refine Below.setCell ?_ ?_ _))) <;> (first | omega | (simp; done) | (simp; omega))))).mono ?_; rintro e v3 ⟨rfl, hv3⟩; rw [← HN1.out]; have zv3 := hv3.size; (try simp at zv3); have kv3_0 := bel_keeps hv3 (b := w1.heap.size) (o := 0) (v := .slice (some ⟨g1, 0, none⟩) gs.length c1) (by first | (go_simp; done) | assumption); have kv3_1 := bel_keeps hv3 (b := w1.heap.size) (o := 1) (v := .slice (some ⟨g2, 0, none⟩) os.length c2) (by first | (go_simp; done) | assumption); have kv3_2 := bel_keeps hv3 (b := w3.heap.size) (o := 0) (v := .slice b1 SG.length d1) (by first | (go_simp; done) | assumption); have kv3_3 := bel_keeps hv3 (b := w3.heap.size) (o := 1) (v := .slice b2 SO.length d2) (by first | (go_simp; done) | assumption); have kv3_4 := bel_keeps hv3 (b := w5.heap.size) (o := 0) (v := .slice b3 YG.length d3) (by first | (go_simp; done) | assumption); have kv3_5 := bel_keeps hv3 (b := w5.heap.size) (o := 1) (v := .slice b4 YO.length d4) (by first | (go_simp; done) | assumption)) | (go_at_call 18; refine (sCountGates_any gs os 4 _ _ _ _ _ hm0 (HR1.out.below (by (repeat (first | with_reducible exact Below.refl _ _ | (with_reducible refine bel_next ?_ ?_ (by assumption)) | (with_reducible refine Below.alloc ?_ ?_ _) | (with_reducible refine Below.drew ?_) | (with_reducible refine below_drewN ?_ _) | (with_reducible refine Below.setCell ?_ ?_ _))) <;> (first | omega | (simp; done) | (simp; omega))))).mono ?_; rintro e v4 ⟨rfl, hv4⟩; rw [← HN2.out]; have zv4 := hv4.size; (try simp at zv4); have kv4_0 := bel_keeps hv4 (b := w1.heap.size) (o := 0) (v := .slice (some ⟨g1, 0, none⟩) gs.length c1) (by first | (go_simp; done) | assumption); have kv4_1 := bel_keeps hv4 (b := w1.heap.size) (o := 1) (v := .slice (some ⟨g2, 0, none⟩) os.length c2) (by first | (go_simp; done) | assumption); have kv4_2 := bel_keeps hv4 (b := w3.heap.size) (o := 0) (v := .slice b1 SG.length d1) (by first | (go_simp; done) | assumption); have kv4_3 := bel_keeps hv4 (b := w3.heap.size) (o := 1) (v := .slice b2 SO.length d2) (by first | (go_simp; done) | assumption); have kv4_4 := bel_keeps hv4 (b := w5.heap.size) (o := 0) (v := .slice b3 YG.length d3) (by first | (go_simp; done) | assumption); have kv4_5 := bel_keeps hv4 (b := w5.heap.size) (o := 1) (v := .slice b4 YO.length d4) (by first | (go_simp; done) | assumption)) | (go_at_call 38; refine (prune_same HPG.out HPO.out _ _ _ _ _ (by omega) (by omega) (HY1.out.below (by (repeat (first | with_reducible exact Below.refl _ _ | (with_reducible refine bel_next ?_ ?_ (by assumption)) | (with_reducible refine Below.alloc ?_ ?_ _) | (with_reducible refine Below.drew ?_) | (with_reducible refine below_drewN ?_ _) | (with_reducible refine Below.setCell ?_ ?_ _))) <;> (first | omega | (simp; done) | (simp; omega)))) (HY2.out.below (by (repeat (first | with_reducible exact Below.refl _ _ | (with_reducible refine bel_next ?_ ?_ (by assumption)) | (with_reducible refine Below.alloc ?_ ?_ _) | (with_reducible refine Below.drew ?_) | (with_reducible refine below_drewN ?_ _) | (with_reducible refine Below.setCell ?_ ?_ _))) <;> (first | omega | (simp; done) | (simp; omega))))).mono ?_; rintro e v5 ⟨x1, y1, x2, y2, rfl, hq1, hq2, hqn, hv5⟩; have zv5 := hv5.size; (try simp at zv5); have kv5_0 := bel_keeps hv5 (b := w1.heap.size) (o := 0) (v := .slice (some ⟨g1, 0, none⟩) gs.length c1) (by first | (go_simp; done) | assumption); have kv5_1 := bel_keeps hv5 (b := w1.heap.size) (o := 1) (v := .slice (some ⟨g2, 0, none⟩) os.length c2) (by first | (go_simp; done) | assumption); have kv5_2 := bel_keeps hv5 (b := w3.heap.size) (o := 0) (v := .slice b1 SG.length d1) (by first | (go_simp; done) | assumption); have kv5_3 := bel_keeps hv5 (b := w3.heap.size) (o := 1) (v := .slice b2 SO.length d2) (by first | (go_simp; done) | assumption); have kv5_4 := bel_keeps hv5 (b := w5.heap.size) (o := 0) (v := .slice b3 YG.length d3) (by first | (go_simp; done) | assumption); have kv5_5 := bel_keeps hv5 (b := w5.heap.size) (o := 1) (v := .slice b4 YO.length d4) (by first | (go_simp; done) | assumption)) | (go_at_call 48; refine (sameCircuit_same YG YO _ _ _ _ _ _ _ _ _ (by omega) (by omega) (hq1.rd.below (by (repeat (first | with_reducible exact Below.refl _ _ | (with_reducible refine bel_next ?_ ?_ (by assumption)) | (with_reducible refine Below.alloc ?_ ?_ _) | (with_reducible refine Below.drew ?_) | (with_reducible refine below_drewN ?_ _) | (with_reducible refine Below.setCell ?_ ?_ _))) <;> (first | omega | (simp; done) | (simp; omega)))) (hq2.rd.below (by (repeat (first | with_reducible exact Below.refl _ _ | (with_reducible refine bel_next ?_ ?_ (by assumption)) | (with_reducible refine Below.alloc ?_ ?_ _) | (with_reducible refine Below.drew ?_) | (with_reducible refine below_drewN ?_ _) | (with_reducible refine Below.setCell ?_ ?_ _))) <;> (first | omega | (simp; done) | (simp; omega)))) (HY1.out.below (by (repeat (first | with_reducible exact Below.refl _ _ | (with_reducible refine bel_next ?_ ?_ (by assumption)) | (with_reducible refine Below.alloc ?_ ?_ _) | (with_reducible refine Below.drew ?_) | (with_reducible refine below_drewN ?_ _) | (with_reducible refine Below.setCell ?_ ?_ _))) <;> (first | omega | (simp; done) | (simp; omega)))) (HY2.out.below (by (repeat (first | with_reducible exact Below.refl _ _ | (with_reducible refine bel_next ?_ ?_ (by assumption)) | (with_reducible refine Below.alloc ?_ ?_ _) | (with_reducible refine Below.drew ?_) | (with_reducible refine below_drewN ?_ _) | (with_reducible refine Below.setCell ?_ ?_ _))) <;> (first | omega | (simp; done) | (simp; omega))))).mono ?_; rintro e v6 ⟨rfl, hv6⟩; have zv6 := hv6.size; (try simp at zv6); have kv6_0 := bel_keeps hv6 (b := w1.heap.size) (o := 0) (v := .slice (some ⟨g1, 0, none⟩) gs.length c1) (by first | (go_simp; done) | assumption); have kv6_1 := bel_keeps hv6 (b := w1.heap.size) (o := 1) (v := .slice (some ⟨g2, 0, none⟩) os.length c2) (by first | (go_simp; done) | assumption); have kv6_2 := bel_keeps hv6 (b := w3.heap.size) (o := 0) (v := .slice b1 SG.length d1) (by first | (go_simp; done) | assumption); have kv6_3 := bel_keeps hv6 (b := w3.heap.size) (o := 1) (v := .slice b2 SO.length d2) (by first | (go_simp; done) | assumption); have kv6_4 := bel_keeps hv6 (b := w5.heap.size) (o := 0) (v := .slice b3 YG.length d3) (by first | (go_simp; done) | assumption); have kv6_5 := bel_keeps hv6 (b := w5.heap.size) (o := 1) (v := .slice b4 YO.length d4) (by first | (go_simp; done) | assumption)))
  all_goals go_wp2_with fail
  all_goals go_ret
  all_goals exact ⟨rfl, (by (repeat (first | with_reducible exact Below.refl _ _ | (with_reducible refine bel_next ?_ ?_ (by assumption)) | (with_reducible refine Below.alloc ?_ ?_ _) | (with_reducible refine Below.drew ?_) | (with_reducible refine below_drewN ?_ _) | (with_reducible refine Below.setCell ?_ ?_ _))) <;> (first | omega | (simp; done) | (simp; omega)))⟩
end Go.Proofs.Ytfpblgbokmpmjaa

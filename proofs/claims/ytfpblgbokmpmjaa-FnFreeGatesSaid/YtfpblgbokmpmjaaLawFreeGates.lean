/- The walk of the law FnFreeGates. -/
import Derived.Test.YtfpblgbokmpmjaaDrCircD
import Derived.Test.YtfpblgbokmpmjaaCircFacts
import Derived.Test.YtfpblgbokmpmjaaDepth
import Derived.Test.YtfpblgbokmpmjaaShare
import Derived.Test.YtfpblgbokmpmjaaKeep
import Derived.Deep.RegionHeld3
import Derived.Deep.CutRange
import Derived.Deep.RegionLaw
namespace Go.Proofs.Ytfpblgbokmpmjaa
open Go.RowKit
set_option linter.unusedVariables false
set_option linter.unusedSimpArgs false
theorem grown_eq {W v : World} {g : Nat} (hg : W.grownBy v (some g)) (b : Nat) (hl : b < W.heap.size) (hne : b ≠ g) : ∀ o, v.cell? ⟨b, o, none⟩ = W.cell? ⟨b, o, none⟩ := fun o =>
  World.cell?_of_block (w := W) (a := ⟨b, o, none⟩) (hg.block b hl (fun e => hne (Option.some.inj e)))
theorem grown_feq {W v : World} {g : Nat} (hg : W.grownBy v (some g)) (b : Nat) (hl : b < W.heap.size) (hne : b ≠ g) : ∀ o, v.frozen? ⟨b, o, none⟩ = W.frozen? ⟨b, o, none⟩ := fun o =>
  World.frozen?_of_block (w := W) (a := ⟨b, o, none⟩) (hg.block b hl (fun e => hne (Option.some.inj e)))
set_option maxRecDepth 20000 in
set_option maxHeartbeats 16000000 in
theorem walk_FnFreeGates (w : World) (xs : List Int) (ad : Option Addr) (c : Nat) (hm : xs.length ≤ maxLen) (hr : RdC w ad (xs.map (Value.int .u8))) (hb : ∀ x ∈ xs, 0 ≤ x ∧ x ≤ 255) :
    Calls Try.prog 12 #[.slice ad xs.length c] w fun e w' => e = .returned (.bool true) ∧ Below w.heap.size w w' := by
  unfold maxLen at hm
  by_cases hsz : xs.length ≤ 1048576
  case neg =>
    go_enter Try.func12, Try.ntmps12
    go_wp2_with (first | (go_at_call 44; go_in) | fail)
    go_ret
    exact ⟨rfl, Below.refl _ _⟩
  go_enter Try.func12, Try.ntmps12
  go_wp2_with (first | (go_at_call 44; go_in) | fail)
  refine (DrawCircuit_any xs ad c w hsz hr hb).mono ?_
  rintro e w1 ⟨g1, c1, g2, c2, gb, cb, gs, os, bs, rfl, hdc, hbits, ho1, ho2, hob, hne, hb1⟩
  have hgl1 := hdc.g1
  have hgl2 := hdc.g2
  have hol1 := hdc.o1
  have hol2 := hdc.o2
  have hm0 : gs.length ≤ 1048576 := by omega
  have hm1 : os.length ≤ 1048576 := by omega
  have HOKC := Lib.hid hdc.ok
  have HBITS := Lib.hid hbits
  have HR1 := Lib.hid ho1.rd
  have HR2 := Lib.hid ho2.rd
  have HRB := Lib.hid hob.rd
  have z1 := hb1.size
  have ge1 := ho1.ge
  have ge2 := ho2.ge
  have geb := hob.ge
  have HO1 := Lib.hid ho1
  have HO2 := Lib.hid ho2
  clear hdc hbits ho1 ho2 hob hr hb
  obtain ⟨d, hd⟩ : ∃ d, d = depM gs := ⟨_, rfl⟩
  obtain ⟨n, hn⟩ : ∃ n, n = cntG 4 gs := ⟨_, rfl⟩
  obtain ⟨e', he⟩ : ∃ e, e = depM (moreAnd gs) := ⟨_, rfl⟩
  have hdb := depM_b gs
  have hcnt := depM_cnt gs
  have hmo := moreAnd_depth gs
  have heb := depM_b (moreAnd gs)
  have hcl := cntG_le 4 gs
  rw [← hd] at hdb hcnt hmo
  rw [← hn] at hcnt hmo hcl
  rw [← he] at hmo heb
  have HMC := Lib.hid hmo.2.2
  have HCNT := Lib.hid hcnt.2
  have HD1 : Hid (andDepth gs os = d) := by show _ = _; unfold andDepth; rw [if_pos HOKC.out, hd]
  have HD2 : Hid (andDepth (moreAnd gs) os = e') := by show _ = _; unfold andDepth; rw [if_pos (moreAnd_ok HOKC.out hgl1 (by omega)), he]
  have HN := Lib.hid hn
  have hml : (moreAnd gs).length = gs.length + 1 := by simp [moreAnd]
  have HML := Lib.hid hml
  rw [hml] at heb
  obtain ⟨hmd, hme, _⟩ := hmo
  have hc1 := hcnt.1
  clear hd hn he hcnt hml
  go_wp2_with fail
  obtain ⟨w2, hw2⟩ : ∃ W, W = w1.alloc (.cells #[.slice (some ⟨g1, 0, none⟩) gs.length c1, .slice (some ⟨g2, 0, none⟩) os.length c2] 30) := ⟨_, rfl⟩
  rw [← hw2]
  have hb2 : Below w1.heap.size w1 w2 := by rw [hw2]; exact (Below.refl _ _).alloc (Nat.le_refl _) _
  have x2 : w1.heap.size < w2.heap.size := by rw [hw2]; simp
  have z2 := hb2.size
  (try simp at z2)
  have kb2_0 : w2.cell? ⟨w1.heap.size, 0, none⟩ = some (.slice (some ⟨g1, 0, none⟩) gs.length c1) := by rw [hw2]; go_simp
  have kb2_1 : w2.cell? ⟨w1.heap.size, 1, none⟩ = some (.slice (some ⟨g2, 0, none⟩) os.length c2) := by rw [hw2]; go_simp
  clear hw2
  go_wp2_with fail
  refine (iAndDepth_any gs os _ _ _ _ _ hm0 hm1 (HR1.out.below (by (repeat (first | with_reducible exact Below.refl _ _ | (with_reducible refine bel_next ?_ ?_ (by assumption)) | (with_reducible refine Below.alloc ?_ ?_ _) | (with_reducible refine Below.drew ?_) | (with_reducible refine below_drewN ?_ _) | (with_reducible refine Below.setCell ?_ ?_ _))) <;> (first | omega | (simp; done) | (simp; omega)))) (HR2.out.below (by (repeat (first | with_reducible exact Below.refl _ _ | (with_reducible refine bel_next ?_ ?_ (by assumption)) | (with_reducible refine Below.alloc ?_ ?_ _) | (with_reducible refine Below.drew ?_) | (with_reducible refine below_drewN ?_ _) | (with_reducible refine Below.setCell ?_ ?_ _))) <;> (first | omega | (simp; done) | (simp; omega))))).mono ?_
  rintro e w3 ⟨rfl, hb3⟩
  rw [HD1.out]
  have z3 := hb3.size
  (try simp at z3)
  have y3_0 : w1.heap.size < w3.heap.size := (by omega)
  have k3_0 := bel_keeps hb3 (b := w1.heap.size) (o := 0) (v := .slice (some ⟨g1, 0, none⟩) gs.length c1) (by first | (go_simp; done) | assumption)
  have k3_1 := bel_keeps hb3 (b := w1.heap.size) (o := 1) (v := .slice (some ⟨g2, 0, none⟩) os.length c2) (by first | (go_simp; done) | assumption)
  clear kb2_0 kb2_1
  go_wp2_with fail
  refine (iCountGates_any gs os 4 _ _ _ _ _ hm0 (HR1.out.below (by (repeat (first | with_reducible exact Below.refl _ _ | (with_reducible refine bel_next ?_ ?_ (by assumption)) | (with_reducible refine Below.alloc ?_ ?_ _) | (with_reducible refine Below.drew ?_) | (with_reducible refine below_drewN ?_ _) | (with_reducible refine Below.setCell ?_ ?_ _))) <;> (first | omega | (simp; done) | (simp; omega))))).mono ?_
  rintro e w4 ⟨rfl, hb4⟩
  rw [← HN.out]
  have z4 := hb4.size
  (try simp at z4)
  have y4_0 : w1.heap.size < w4.heap.size := (by omega)
  have k4_0 := bel_keeps hb4 (b := w1.heap.size) (o := 0) (v := .slice (some ⟨g1, 0, none⟩) gs.length c1) (by first | (go_simp; done) | assumption)
  have k4_1 := bel_keeps hb4 (b := w1.heap.size) (o := 1) (v := .slice (some ⟨g2, 0, none⟩) os.length c2) (by first | (go_simp; done) | assumption)
  clear k3_0 k3_1
  go_wp2_with fail
  have HA1 : Hid (RdC w4 (some ⟨g1, 0, none⟩) (gtCells gs)) := HR1.out.below (by (repeat (first | with_reducible exact Below.refl _ _ | (with_reducible refine bel_next ?_ ?_ (by assumption)) | (with_reducible refine Below.alloc ?_ ?_ _) | (with_reducible refine Below.drew ?_) | (with_reducible refine below_drewN ?_ _) | (with_reducible refine Below.setCell ?_ ?_ _))) <;> (first | omega | (simp; done) | (simp; omega)))
  have HA2 : Hid (RdC w4 (some ⟨g2, 0, none⟩) (I64 os)) := HR2.out.below (by (repeat (first | with_reducible exact Below.refl _ _ | (with_reducible refine bel_next ?_ ?_ (by assumption)) | (with_reducible refine Below.alloc ?_ ?_ _) | (with_reducible refine Below.drew ?_) | (with_reducible refine below_drewN ?_ _) | (with_reducible refine Below.setCell ?_ ?_ _))) <;> (first | omega | (simp; done) | (simp; omega)))
  have zw : w.heap.size ≤ w4.heap.size := by omega
  have hBz : w1.heap.size < w4.heap.size := by omega
  have hbwp : Below w.heap.size w w4 := (by (repeat (first | with_reducible exact Below.refl _ _ | (with_reducible refine bel_next ?_ ?_ (by assumption)) | (with_reducible refine Below.alloc ?_ ?_ _) | (with_reducible refine Below.drew ?_) | (with_reducible refine below_drewN ?_ _) | (with_reducible refine Below.setCell ?_ ?_ _))) <;> (first | omega | (simp; done) | (simp; omega)))
  have HBW := Lib.hid hbwp
  have HMD := Lib.hid hmd
  have HME := Lib.hid hme
  have HC1 := Lib.hid hc1
  have HDB := Lib.hid hdb
  have HEB := Lib.hid heb
  have HCL := Lib.hid hcl
  have hgl6 : (gs.length : Int) ≤ 24 := by omega
  clear hbwp HR1 HR2 HRB HO1 HO2 hdb heb hcl hmd hme hc1 ge1 ge2 geb hne
  clear hb1 hb2 hb3 hb4
  clear z1 z2 z3 z4
  have HA : Hid ((some ⟨g1, 0, none⟩ : Option Addr) = none → gs.length = 0) := fun h => by cases h
  have hB0 : w1.heap.size < w4.heap.size := by omega
  have hBa0 : w1.heap.size ≠ w4.heap.size := by omega
  have hBb0 : w4.heap.size ≠ w1.heap.size := by omega
  have hBa1 : w1.heap.size ≠ w4.heap.size + 1 := by omega
  have hBb1 : w4.heap.size + 1 ≠ w1.heap.size := by omega
  have hBa2 : w1.heap.size ≠ w4.heap.size + 2 := by omega
  have hBb2 : w4.heap.size + 2 ≠ w1.heap.size := by omega
  have hBa3 : w1.heap.size ≠ w4.heap.size + 1 + 1 := by omega
  have hBb3 : w4.heap.size + 1 + 1 ≠ w1.heap.size := by omega
  have hBa4 : w1.heap.size ≠ w4.heap.size + 3 := by omega
  have hBb4 : w4.heap.size + 3 ≠ w1.heap.size := by omega
  have hBa5 : w1.heap.size ≠ w4.heap.size + 1 + 1 + 1 := by omega
  have hBb5 : w4.heap.size + 1 + 1 + 1 ≠ w1.heap.size := by omega
  have hBc0 : w1.heap.size < w4.heap.size + 1 := by omega
  have hBc1 : w1.heap.size < w4.heap.size + 2 := by omega
  have hBc2 : w1.heap.size < w4.heap.size + 1 + 1 := by omega
  have hBc3 : w1.heap.size < w4.heap.size + 3 := by omega
  have hBc4 : w1.heap.size < w4.heap.size + 1 + 1 + 1 := by omega
  have hw1 : IntKind.i64.wrap ((gs.length : Int) - 1) = gs.length - 1 := wrap_i64_id (by omega) (by omega)
  go_cut [7] from 20 to 33 (fun s7 wx => ∃ g d bx : Nat, s7 = .pointer (some ⟨bx, 0, none⟩) ∧ Below w4.heap.size w4 wx ∧ wx.cell? ⟨bx, 0, none⟩ = some (.slice (some ⟨g, 0, none⟩) (gs.length + 1) d) ∧ wx.cell? ⟨bx, 1, none⟩ = some (.slice (some ⟨g2, 0, none⟩) os.length c2) ∧ RdC wx (some ⟨g, 0, none⟩) (gtCells (moreAnd gs)))
  case first =>
    go_region_held3 (fun w' => w'.cell? ⟨w1.heap.size, 0, none⟩ = some (.slice (some ⟨g1, 0, none⟩) gs.length c1) ∧ w'.cell? ⟨w1.heap.size, 1, none⟩ = some (.slice (some ⟨g2, 0, none⟩) os.length c2))
      (first | (go_split_ands; refine ⟨?_, ?_⟩ <;> (repeat (first | with_reducible assumption | with_reducible refine cell_dr ?_ | with_reducible refine cell_al ?_ | with_reducible refine cell_st ?_ ?_)) <;> (first | omega | (simp; done) | (simp; omega))) | go_keep)
      (first | (have _q := ho91; clear _q; refine step_pushG _ rfl (.tmp 23) (.tmp 29) rfl w4.heap.size gs.length d91 (some ⟨g91, 0, none⟩) gs ⟨4, (gs.length : Int) - 1, 0⟩ _ 1 (by rfl) (by rfl) (ho91.later (by (repeat (first | with_reducible exact Kp.refl _ _ | (with_reducible refine Kp.rng ?_ (by assumption) ?_) | (with_reducible refine Kp.below ?_ (by assumption)) | (with_reducible refine Kp.grown ?_ (by assumption) ?_) | (with_reducible refine Kp.alloc ?_ _) | (with_reducible refine Kp.drew ?_) | (with_reducible refine Kp.drewN ?_ _) | (with_reducible refine Kp.setCell ?_ _ ?_))) <;> (first | omega | (simp; done) | (simp; omega)))) (by first | (go_simp; done) | assumption) (by first | (go_simp; done) | assumption) (by first | (go_simp; done) | assumption) (by omega) (by first | omega | (simp; done) | (simp; omega)) ?_; intro g92 d92 v92 ho92 hb92 hg92 hat92; (try simp at hat92); have z92 := hb92.size; (try simp at z92); have y92 := hg92.size; (try simp at y92); have ge92 := ho92.ge; have yy92 : w1.heap.size < v92.heap.size := (by omega); have yz92 : w1.heap.size < v92.heap.size + 1 := (by omega); have k92_0 := grown_cell hg92 (b := w1.heap.size) (o := 0) (x := .slice (some ⟨g1, 0, none⟩) gs.length c1) (by first | (simp; done) | (simp; omega) | omega) (by first | (go_simp; done) | assumption); have k92_1 := grown_cell hg92 (b := w1.heap.size) (o := 1) (x := .slice (some ⟨g2, 0, none⟩) os.length c2) (by first | (simp; done) | (simp; omega) | omega) (by first | (go_simp; done) | assumption); (try have r92_0 := grown_eq hg92 (w4.heap.size) (by first | omega | (simp; done) | (simp; omega)) (by first | (simp; done) | (simp; omega) | omega)); (try have q92_0 := grown_feq hg92 (w4.heap.size) (by first | omega | (simp; done) | (simp; omega)) (by first | (simp; done) | (simp; omega) | omega)); (try have l92_0 : w4.heap.size < v92.heap.size := (by omega)); (try have n92_0 : w4.heap.size ≠ v92.heap.size := (by omega)); (try have j92_0 : w4.heap.size < v92.heap.size + 1 := (by omega)); (try have r92_1 := grown_eq hg92 (w4.heap.size + 1) (by first | omega | (simp; done) | (simp; omega)) (by first | (simp; done) | (simp; omega) | omega)); (try have q92_1 := grown_feq hg92 (w4.heap.size + 1) (by first | omega | (simp; done) | (simp; omega)) (by first | (simp; done) | (simp; omega) | omega)); (try have l92_1 : w4.heap.size + 1 < v92.heap.size := (by omega)); (try have n92_1 : w4.heap.size + 1 ≠ v92.heap.size := (by omega)); (try have j92_1 : w4.heap.size + 1 < v92.heap.size + 1 := (by omega)); (try have r92_2 := grown_eq hg92 (w4.heap.size + 2) (by first | omega | (simp; done) | (simp; omega)) (by first | (simp; done) | (simp; omega) | omega)); (try have q92_2 := grown_feq hg92 (w4.heap.size + 2) (by first | omega | (simp; done) | (simp; omega)) (by first | (simp; done) | (simp; omega) | omega)); (try have l92_2 : w4.heap.size + 2 < v92.heap.size := (by omega)); (try have n92_2 : w4.heap.size + 2 ≠ v92.heap.size := (by omega)); (try have j92_2 : w4.heap.size + 2 < v92.heap.size + 1 := (by omega)); (try have r92_3 := grown_eq hg92 (v91.heap.size) (by first | omega | (simp; done) | (simp; omega)) (by first | (simp; done) | (simp; omega) | omega)); (try have q92_3 := grown_feq hg92 (v91.heap.size) (by first | omega | (simp; done) | (simp; omega)) (by first | (simp; done) | (simp; omega) | omega)); (try have l92_3 : v91.heap.size < v92.heap.size := (by omega)); (try have n92_3 : v91.heap.size ≠ v92.heap.size := (by omega)); (try have j92_3 : v91.heap.size < v92.heap.size + 1 := (by omega)); (try have r92_4 := grown_eq hg92 (v91.heap.size + 1) (by first | omega | (simp; done) | (simp; omega)) (by first | (simp; done) | (simp; omega) | omega)); (try have q92_4 := grown_feq hg92 (v91.heap.size + 1) (by first | omega | (simp; done) | (simp; omega)) (by first | (simp; done) | (simp; omega) | omega)); (try have l92_4 : v91.heap.size + 1 < v92.heap.size := (by omega)); (try have n92_4 : v91.heap.size + 1 ≠ v92.heap.size := (by omega)); (try have j92_4 : v91.heap.size + 1 < v92.heap.size + 1 := (by omega)); have xa92_0 : w1.heap.size ≠ v92.heap.size := (by omega); have xb92_0 : v92.heap.size ≠ w1.heap.size := (by omega); have xc92_0 : w1.heap.size < v92.heap.size := (by omega); have xa92_1 : w1.heap.size ≠ v92.heap.size + 1 := (by omega); have xb92_1 : v92.heap.size + 1 ≠ w1.heap.size := (by omega); have xc92_1 : w1.heap.size < v92.heap.size + 1 := (by omega); have xa92_2 : w1.heap.size ≠ v92.heap.size + 2 := (by omega); have xb92_2 : v92.heap.size + 2 ≠ w1.heap.size := (by omega); have xc92_2 : w1.heap.size < v92.heap.size + 2 := (by omega); have xa92_3 : w1.heap.size ≠ v92.heap.size + 1 + 1 := (by omega); have xb92_3 : v92.heap.size + 1 + 1 ≠ w1.heap.size := (by omega); have xc92_3 : w1.heap.size < v92.heap.size + 1 + 1 := (by omega)) | (refine step_copy _ rfl el_gate (.tmp 20) (.tmp 22) rfl w4.heap.size _ 0 (gtCells gs) (some ⟨g1, 0, none⟩) gs.length c1 (by rfl) (by rfl) ?_ (gtCells_length gs) ?_ (gtCells_one gs) HA.out (by omega) (by omega) ?_ ?_; ((first | (refine own_last _ _ _ _ _ ?_ ?_ <;> (first | rfl | (simp; done) | (simp; omega) | omega)) | (refine Own.drew (own_last _ _ _ _ _ ?_ ?_) <;> (first | rfl | (simp; done) | (simp; omega) | omega)) | (refine Own.alloc (own_last _ _ _ _ _ ?_ ?_) _ <;> (first | rfl | (simp; done) | (simp; omega) | omega)) | (refine Own.drew (Own.alloc (own_last _ _ _ _ _ ?_ ?_) _) <;> (first | rfl | (simp; done) | (simp; omega) | omega)) | (refine Own.alloc (Own.alloc (own_last _ _ _ _ _ ?_ ?_) _) _ <;> (first | rfl | (simp; done) | (simp; omega) | omega)) | (refine Own.drew (Own.alloc (Own.alloc (own_last _ _ _ _ _ ?_ ?_) _) _) <;> (first | rfl | (simp; done) | (simp; omega) | omega)))); (exact HA1.out.below (by (repeat (first | with_reducible exact Below.refl _ _ | (with_reducible refine bel_next ?_ ?_ (by assumption)) | (with_reducible refine Below.alloc ?_ ?_ _) | (with_reducible refine Below.drew ?_) | (with_reducible refine below_drewN ?_ _) | (with_reducible refine Below.setCell ?_ ?_ _))) <;> (first | omega | (simp; done) | (simp; omega)))); ((first | (focus (simp; done)) | (focus (simp; omega)) | (focus omega))); intro g91 d91 v91 ho91 hb91 hg91 hat91; (try simp at hat91); have z91 := hb91.size; (try simp at z91); have y91 := hg91.size; (try simp at y91); have ge91 := ho91.ge; have yy91 : w1.heap.size < v91.heap.size := (by omega); have yz91 : w1.heap.size < v91.heap.size + 1 := (by omega); have k91_0 := grown_cell hg91 (b := w1.heap.size) (o := 0) (x := .slice (some ⟨g1, 0, none⟩) gs.length c1) (by first | (simp; done) | (simp; omega) | omega) (by first | (go_simp; done) | assumption); have k91_1 := grown_cell hg91 (b := w1.heap.size) (o := 1) (x := .slice (some ⟨g2, 0, none⟩) os.length c2) (by first | (simp; done) | (simp; omega) | omega) (by first | (go_simp; done) | assumption); (try have r91_0 := grown_eq hg91 (w4.heap.size) (by first | omega | (simp; done) | (simp; omega)) (by first | (simp; done) | (simp; omega) | omega)); (try have q91_0 := grown_feq hg91 (w4.heap.size) (by first | omega | (simp; done) | (simp; omega)) (by first | (simp; done) | (simp; omega) | omega)); (try have l91_0 : w4.heap.size < v91.heap.size := (by omega)); (try have n91_0 : w4.heap.size ≠ v91.heap.size := (by omega)); (try have j91_0 : w4.heap.size < v91.heap.size + 1 := (by omega)); (try have r91_1 := grown_eq hg91 (w4.heap.size + 1) (by first | omega | (simp; done) | (simp; omega)) (by first | (simp; done) | (simp; omega) | omega)); (try have q91_1 := grown_feq hg91 (w4.heap.size + 1) (by first | omega | (simp; done) | (simp; omega)) (by first | (simp; done) | (simp; omega) | omega)); (try have l91_1 : w4.heap.size + 1 < v91.heap.size := (by omega)); (try have n91_1 : w4.heap.size + 1 ≠ v91.heap.size := (by omega)); (try have j91_1 : w4.heap.size + 1 < v91.heap.size + 1 := (by omega)); (try have r91_2 := grown_eq hg91 (w4.heap.size + 2) (by first | omega | (simp; done) | (simp; omega)) (by first | (simp; done) | (simp; omega) | omega)); (try have q91_2 := grown_feq hg91 (w4.heap.size + 2) (by first | omega | (simp; done) | (simp; omega)) (by first | (simp; done) | (simp; omega) | omega)); (try have l91_2 : w4.heap.size + 2 < v91.heap.size := (by omega)); (try have n91_2 : w4.heap.size + 2 ≠ v91.heap.size := (by omega)); (try have j91_2 : w4.heap.size + 2 < v91.heap.size + 1 := (by omega)); have xa91_0 : w1.heap.size ≠ v91.heap.size := (by omega); have xb91_0 : v91.heap.size ≠ w1.heap.size := (by omega); have xc91_0 : w1.heap.size < v91.heap.size := (by omega); have xa91_1 : w1.heap.size ≠ v91.heap.size + 1 := (by omega); have xb91_1 : v91.heap.size + 1 ≠ w1.heap.size := (by omega); have xc91_1 : w1.heap.size < v91.heap.size + 1 := (by omega); have xa91_2 : w1.heap.size ≠ v91.heap.size + 2 := (by omega); have xb91_2 : v91.heap.size + 2 ≠ w1.heap.size := (by omega); have xc91_2 : w1.heap.size < v91.heap.size + 2 := (by omega); have xa91_3 : w1.heap.size ≠ v91.heap.size + 1 + 1 := (by omega); have xb91_3 : v91.heap.size + 1 + 1 ≠ w1.heap.size := (by omega); have xc91_3 : w1.heap.size < v91.heap.size + 1 + 1 := (by omega)))
    all_goals go_wp2_with fail
    all_goals go_meet
    all_goals first
      | exact ⟨g92, d92, w4.heap.size, rfl, (by (repeat (first | with_reducible exact Below.refl _ _ | (with_reducible refine bel_next ?_ ?_ (by assumption)) | (with_reducible refine Below.alloc ?_ ?_ _) | (with_reducible refine Below.drew ?_) | (with_reducible refine below_drewN ?_ _) | (with_reducible refine Below.setCell ?_ ?_ _))) <;> (first | omega | (simp; done) | (simp; omega))), (by first | (go_simp; done) | assumption), (by first | (go_simp; done) | assumption), (ho92.later (by (repeat (first | with_reducible exact Kp.refl _ _ | (with_reducible refine Kp.rng ?_ (by assumption) ?_) | (with_reducible refine Kp.below ?_ (by assumption)) | (with_reducible refine Kp.grown ?_ (by assumption) ?_) | (with_reducible refine Kp.alloc ?_ _) | (with_reducible refine Kp.drew ?_) | (with_reducible refine Kp.drewN ?_ _) | (with_reducible refine Kp.setCell ?_ _ ?_))) <;> (first | omega | (simp; done) | (simp; omega)))).rd⟩
      | exact ⟨g92, d92, w4.heap.size + 1, rfl, (by (repeat (first | with_reducible exact Below.refl _ _ | (with_reducible refine bel_next ?_ ?_ (by assumption)) | (with_reducible refine Below.alloc ?_ ?_ _) | (with_reducible refine Below.drew ?_) | (with_reducible refine below_drewN ?_ _) | (with_reducible refine Below.setCell ?_ ?_ _))) <;> (first | omega | (simp; done) | (simp; omega))), (by first | (go_simp; done) | assumption), (by first | (go_simp; done) | assumption), (ho92.later (by (repeat (first | with_reducible exact Kp.refl _ _ | (with_reducible refine Kp.rng ?_ (by assumption) ?_) | (with_reducible refine Kp.below ?_ (by assumption)) | (with_reducible refine Kp.grown ?_ (by assumption) ?_) | (with_reducible refine Kp.alloc ?_ _) | (with_reducible refine Kp.drew ?_) | (with_reducible refine Kp.drewN ?_ _) | (with_reducible refine Kp.setCell ?_ _ ?_))) <;> (first | omega | (simp; done) | (simp; omega)))).rd⟩
      | exact ⟨g92, d92, w4.heap.size + 2, rfl, (by (repeat (first | with_reducible exact Below.refl _ _ | (with_reducible refine bel_next ?_ ?_ (by assumption)) | (with_reducible refine Below.alloc ?_ ?_ _) | (with_reducible refine Below.drew ?_) | (with_reducible refine below_drewN ?_ _) | (with_reducible refine Below.setCell ?_ ?_ _))) <;> (first | omega | (simp; done) | (simp; omega))), (by first | (go_simp; done) | assumption), (by first | (go_simp; done) | assumption), (ho92.later (by (repeat (first | with_reducible exact Kp.refl _ _ | (with_reducible refine Kp.rng ?_ (by assumption) ?_) | (with_reducible refine Kp.below ?_ (by assumption)) | (with_reducible refine Kp.grown ?_ (by assumption) ?_) | (with_reducible refine Kp.alloc ?_ _) | (with_reducible refine Kp.drew ?_) | (with_reducible refine Kp.drewN ?_ _) | (with_reducible refine Kp.setCell ?_ _ ?_))) <;> (first | omega | (simp; done) | (simp; omega)))).rd⟩
      | exact ⟨g92, d92, v91.heap.size, rfl, (by (repeat (first | with_reducible exact Below.refl _ _ | (with_reducible refine bel_next ?_ ?_ (by assumption)) | (with_reducible refine Below.alloc ?_ ?_ _) | (with_reducible refine Below.drew ?_) | (with_reducible refine below_drewN ?_ _) | (with_reducible refine Below.setCell ?_ ?_ _))) <;> (first | omega | (simp; done) | (simp; omega))), (by first | (go_simp; done) | assumption), (by first | (go_simp; done) | assumption), (ho92.later (by (repeat (first | with_reducible exact Kp.refl _ _ | (with_reducible refine Kp.rng ?_ (by assumption) ?_) | (with_reducible refine Kp.below ?_ (by assumption)) | (with_reducible refine Kp.grown ?_ (by assumption) ?_) | (with_reducible refine Kp.alloc ?_ _) | (with_reducible refine Kp.drew ?_) | (with_reducible refine Kp.drewN ?_ _) | (with_reducible refine Kp.setCell ?_ _ ?_))) <;> (first | omega | (simp; done) | (simp; omega)))).rd⟩
      | exact ⟨g92, d92, v91.heap.size + 1, rfl, (by (repeat (first | with_reducible exact Below.refl _ _ | (with_reducible refine bel_next ?_ ?_ (by assumption)) | (with_reducible refine Below.alloc ?_ ?_ _) | (with_reducible refine Below.drew ?_) | (with_reducible refine below_drewN ?_ _) | (with_reducible refine Below.setCell ?_ ?_ _))) <;> (first | omega | (simp; done) | (simp; omega))), (by first | (go_simp; done) | assumption), (by first | (go_simp; done) | assumption), (ho92.later (by (repeat (first | with_reducible exact Kp.refl _ _ | (with_reducible refine Kp.rng ?_ (by assumption) ?_) | (with_reducible refine Kp.below ?_ (by assumption)) | (with_reducible refine Kp.grown ?_ (by assumption) ?_) | (with_reducible refine Kp.alloc ?_ _) | (with_reducible refine Kp.drew ?_) | (with_reducible refine Kp.drewN ?_ _) | (with_reducible refine Kp.setCell ?_ _ ?_))) <;> (first | omega | (simp; done) | (simp; omega)))).rd⟩
      | exact ⟨g92, d92, v92.heap.size, rfl, (by (repeat (first | with_reducible exact Below.refl _ _ | (with_reducible refine bel_next ?_ ?_ (by assumption)) | (with_reducible refine Below.alloc ?_ ?_ _) | (with_reducible refine Below.drew ?_) | (with_reducible refine below_drewN ?_ _) | (with_reducible refine Below.setCell ?_ ?_ _))) <;> (first | omega | (simp; done) | (simp; omega))), (by first | (go_simp; done) | assumption), (by first | (go_simp; done) | assumption), (ho92.later (by (repeat (first | with_reducible exact Kp.refl _ _ | (with_reducible refine Kp.rng ?_ (by assumption) ?_) | (with_reducible refine Kp.below ?_ (by assumption)) | (with_reducible refine Kp.grown ?_ (by assumption) ?_) | (with_reducible refine Kp.alloc ?_ _) | (with_reducible refine Kp.drew ?_) | (with_reducible refine Kp.drewN ?_ _) | (with_reducible refine Kp.setCell ?_ _ ?_))) <;> (first | omega | (simp; done) | (simp; omega)))).rd⟩
      | (have q0 : v92.cell? ⟨w4.heap.size, 0, none⟩ = some (.slice none 0 0) := (by rw [r92_0, r91_0]; go_simp); have q1 : v92.cell? ⟨w4.heap.size, 1, none⟩ = some (.slice none 0 0) := (by rw [r92_0, r91_0]; go_simp); clear r92_0 r91_0; exact ⟨g92, d92, w4.heap.size, rfl, (by (repeat (first | with_reducible exact Below.refl _ _ | (with_reducible refine bel_next ?_ ?_ (by assumption)) | (with_reducible refine Below.alloc ?_ ?_ _) | (with_reducible refine Below.drew ?_) | (with_reducible refine below_drewN ?_ _) | (with_reducible refine Below.setCell ?_ ?_ _))) <;> (first | omega | (simp; done) | (simp; omega))), (by first | (go_simp; done) | assumption), (by first | (go_simp; done) | assumption), (ho92.later (by (repeat (first | with_reducible exact Kp.refl _ _ | (with_reducible refine Kp.rng ?_ (by assumption) ?_) | (with_reducible refine Kp.below ?_ (by assumption)) | (with_reducible refine Kp.grown ?_ (by assumption) ?_) | (with_reducible refine Kp.alloc ?_ _) | (with_reducible refine Kp.drew ?_) | (with_reducible refine Kp.drewN ?_ _) | (with_reducible refine Kp.setCell ?_ _ ?_))) <;> (first | omega | (simp; done) | (simp; omega)))).rd⟩)
  case rest =>
    obtain ⟨g, d9, bx, rfl, hbx, c0, c1', hrx⟩ := hcut
    have HRX := Lib.hid hrx
    have zx := hbx.size
    clear hrx k4_0 k4_1
    go_wp2_with fail
    have hcc := iAndDepth_any (moreAnd gs) os (some ⟨g, 0, none⟩) (some ⟨g2, 0, none⟩) d9 c2 wc (by rw [HML.out]; omega) hm1 HRX.out (HA2.out.below hbx)
    rw [HML.out, HD2.out] at hcc
    refine hcc.mono ?_
    clear hcc
    rintro e v3 ⟨rfl, hv3⟩
    have x0 := bel_keeps hv3 c0
    have x1 := bel_keeps hv3 c1'
    have zv := hv3.size
    clear c0 c1'
    have hmd := HMD.out
    have hme := HME.out
    have hcn := HCNT.out
    have hc1 := HC1.out
    have hda := HDB.out
    have hcl := HCL.out
    have hnz : (0 : Int) ≤ n := by omega
    have hw2 : IntKind.i64.wrap (d + 1) = d + 1 := wrap_i64_id (by omega) (by omega)
    have hw3 : IntKind.i64.wrap ((n : Int) + 1) = (n : Int) + 1 := wrap_i64_id (by omega) (by omega)
    have hcc := fun W (h : Below v3.heap.size v3 W) => iCountGates_any (moreAnd gs) os 4 (some ⟨g, 0, none⟩) (some ⟨g2, 0, none⟩) d9 c2 W (by rw [HML.out]; omega) ((HRX.out.below hv3).below h)
    rw [HML.out, HMC.out] at hcc
    have A1 : decide ((0 : Int) < n) = decide ((0 : Int) < d) := by by_cases h : (0 : Int) < d <;> simp [h] <;> omega
    go_wp2_with (go_at_call 20; refine (hcc _ (Below.refl _ _)).mono ?_; rintro e v4 ⟨rfl, hv4⟩)
    all_goals go_ret
    all_goals have hbw := HBW.out
    all_goals exact ⟨rfl, (hbw.trans (hbx.mono (by omega))).trans ((hv3.mono (by omega)).trans (hv4.mono (by omega)))⟩
end Go.Proofs.Ytfpblgbokmpmjaa

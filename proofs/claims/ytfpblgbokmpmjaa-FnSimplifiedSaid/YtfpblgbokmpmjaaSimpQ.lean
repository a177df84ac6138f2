/- Simplify, the program. -/
import Derived.Test.YtfpblgbokmpmjaaSimpD
import Derived.Test.YtfpblgbokmpmjaaSimpJ
import Derived.Deep.RegionHeld3
import Derived.Deep.RegionLaw
import Derived.StillTailTactics
namespace Go.Proofs.Ytfpblgbokmpmjaa
open Go.RowKit
set_option linter.unusedVariables false
set_option linter.unusedSimpArgs false

set_option maxRecDepth 20000 in
set_option maxHeartbeats 16000000 in
theorem iSimplify_any (gs : List Gt) (os : List Int) (a1 a2 : Option Addr) (c1 c2 : Nat) (w : World) (hm : gs.length ≤ 1048576) (hm2 : os.length ≤ 1048576) (hr : RdC w a1 (gtCells gs)) (hr2 : RdC w a2 (I64 os)) :
    Calls Try.prog 41 #[.agg #[.slice a1 gs.length c1, .slice a2 os.length c2]] w fun e w' => ∃ b1 d1 b2 d2, e = .returned (.agg #[.slice b1 (smG gs os).length d1, .slice b2 (smO gs os).length d2]) ∧
      Own w' w.heap.size 50 3 b1 (smG gs os).length d1 (gtCells (smG gs os)) ∧ Own w' w.heap.size 3 1 b2 (smO gs os).length d2 (I64 (smO gs os)) ∧ (∀ x y, b1 = some x → b2 = some y → x.block ≠ y.block) ∧ Below w.heap.size w w' := by
  have HR := Lib.hid hr
  have HR2 := Lib.hid hr2
  clear hr hr2
  have nH : w.heap.size ≠ w.heap.size + 1 := by omega
  cases hc : circOk gs os
  · have HC := Lib.hid hc
    rw [show smG gs os = gs by simp [smG, hc], show smO gs os = os by simp [smO, hc]]
    clear hc
    go_enter Try.func41, Try.ntmps41
    go_wp2_with fail
    refine (iCircuitOk_any gs os _ _ _ _ _ hm hm2 (HR.out.below (by (repeat (first | with_reducible exact Below.refl _ _ | (with_reducible refine bel_next ?_ ?_ (by assumption)) | (with_reducible refine Below.alloc ?_ ?_ _) | (with_reducible refine Below.drew ?_) | (with_reducible refine below_drewN ?_ _) | (with_reducible refine Below.setCell ?_ ?_ _))) <;> (first | omega | (simp; done) | (simp; omega)))) (HR2.out.below (by (repeat (first | with_reducible exact Below.refl _ _ | (with_reducible refine bel_next ?_ ?_ (by assumption)) | (with_reducible refine Below.alloc ?_ ?_ _) | (with_reducible refine Below.drew ?_) | (with_reducible refine below_drewN ?_ _) | (with_reducible refine Below.setCell ?_ ?_ _))) <;> (first | omega | (simp; done) | (simp; omega))))).mono ?_
    rintro e w1 ⟨rfl, hb1⟩
    rw [HC.out]
    have z1 := hb1.size
    (try simp at z1)
    have y1a : w.heap.size < w1.heap.size := (by omega)
    have y1b : w.heap.size + 1 < w1.heap.size := (by omega)
    have k1_0 := bel_keeps hb1 (b := w.heap.size) (o := 0) (v := .slice a1 gs.length c1) (by first | (go_simp; done) | assumption)
    have k1_1 := bel_keeps hb1 (b := w.heap.size) (o := 1) (v := .slice a2 os.length c2) (by first | (go_simp; done) | assumption)
    have k1_2 := bel_keeps hb1 (b := w.heap.size + 1) (o := 0) (v := .slice none 0 0) (by first | (go_simp; done) | assumption)
    have k1_3 := bel_keeps hb1 (b := w.heap.size + 1) (o := 1) (v := .slice none 0 0) (by first | (go_simp; done) | assumption)
    have f1_0 := bel_free hb1 (b := w.heap.size + 1) (o := 0) (by first | omega | (simp; done) | (simp; omega)) (by first | (go_simp; done) | assumption)
    have f1_1 := bel_free hb1 (b := w.heap.size + 1) (o := 1) (by first | omega | (simp; done) | (simp; omega)) (by first | (go_simp; done) | assumption)
    go_wp2_with fail
    refine (copyCircuit_any gs os _ _ _ _ _ hm hm2 (HR.out.below (by (repeat (first | with_reducible exact Below.refl _ _ | (with_reducible refine bel_next ?_ ?_ (by assumption)) | (with_reducible refine Below.alloc ?_ ?_ _) | (with_reducible refine Below.drew ?_) | (with_reducible refine below_drewN ?_ _) | (with_reducible refine Below.setCell ?_ ?_ _))) <;> (first | omega | (simp; done) | (simp; omega)))) (HR2.out.below (by (repeat (first | with_reducible exact Below.refl _ _ | (with_reducible refine bel_next ?_ ?_ (by assumption)) | (with_reducible refine Below.alloc ?_ ?_ _) | (with_reducible refine Below.drew ?_) | (with_reducible refine below_drewN ?_ _) | (with_reducible refine Below.setCell ?_ ?_ _))) <;> (first | omega | (simp; done) | (simp; omega))))).mono ?_
    rintro e w2 ⟨g1, d1, g2, d2, rfl, ho1, ho2, hne, hb2⟩
    have z2 := hb2.size
    have ge1 := ho1.ge
    have ge2 := ho2.ge
    have y2a : w.heap.size < w2.heap.size := (by omega)
    have y2b : w.heap.size + 1 < w2.heap.size := (by omega)
    have k2_0 := bel_keeps hb2 (b := w.heap.size) (o := 0) (v := .slice a1 gs.length c1) (by first | (go_simp; done) | assumption)
    have k2_1 := bel_keeps hb2 (b := w.heap.size) (o := 1) (v := .slice a2 os.length c2) (by first | (go_simp; done) | assumption)
    have k2_2 := bel_keeps hb2 (b := w.heap.size + 1) (o := 0) (v := .slice none 0 0) (by first | (go_simp; done) | assumption)
    have k2_3 := bel_keeps hb2 (b := w.heap.size + 1) (o := 1) (v := .slice none 0 0) (by first | (go_simp; done) | assumption)
    have f2_0 := bel_free hb2 (b := w.heap.size + 1) (o := 0) (by first | omega | (simp; done) | (simp; omega)) (by first | (go_simp; done) | assumption)
    have f2_1 := bel_free hb2 (b := w.heap.size + 1) (o := 1) (by first | omega | (simp; done) | (simp; omega)) (by first | (go_simp; done) | assumption)
    clear k1_0 k1_1 k1_2 k1_3 f1_0 f1_1
    go_wp2_with fail
    refine bodyPost_ret (v := .agg #[.slice (some ⟨g1, 0, none⟩) gs.length d1, .slice (some ⟨g2, 0, none⟩) os.length d2]) (by simp [results, Try.results41, go_sem, *]) rfl ?_
    exact ⟨_, d1, _, d2, rfl, (ho1.lo (by omega)).later (by (repeat (first | with_reducible exact Kp.refl _ _ | (with_reducible refine Kp.rng ?_ (by assumption) ?_) | (with_reducible refine Kp.below ?_ (by assumption)) | (with_reducible refine Kp.grown ?_ (by assumption) ?_) | (with_reducible refine Kp.alloc ?_ _) | (with_reducible refine Kp.drew ?_) | (with_reducible refine Kp.drewN ?_ _) | (with_reducible refine Kp.setCell ?_ _ ?_))) <;> (first | omega | (simp; done) | (simp; omega))), (ho2.lo (by omega)).later (by (repeat (first | with_reducible exact Kp.refl _ _ | (with_reducible refine Kp.rng ?_ (by assumption) ?_) | (with_reducible refine Kp.below ?_ (by assumption)) | (with_reducible refine Kp.grown ?_ (by assumption) ?_) | (with_reducible refine Kp.alloc ?_ _) | (with_reducible refine Kp.drew ?_) | (with_reducible refine Kp.drewN ?_ _) | (with_reducible refine Kp.setCell ?_ _ ?_))) <;> (first | omega | (simp; done) | (simp; omega))), fun x y hx hy => by (obtain rfl := Option.some.inj hx; obtain rfl := Option.some.inj hy; exact hne), (by (repeat (first | with_reducible exact Below.refl _ _ | (with_reducible refine bel_next ?_ ?_ (by assumption)) | (with_reducible refine Below.alloc ?_ ?_ _) | (with_reducible refine Below.drew ?_) | (with_reducible refine below_drewN ?_ _) | (with_reducible refine Below.setCell ?_ ?_ _))) <;> (first | omega | (simp; done) | (simp; omega)))⟩
  have HC := Lib.hid hc
  have hm6 : gs.length ≤ 6000 := (circ_parts hc).2.2
  rw [show smG gs os = simpG gs by simp [smG, hc], show smO gs os = simpO gs os by simp [smO, hc]]
  clear hc
  have hmm := @run_makeMap Try.prog
  go_enter Try.func41, Try.ntmps41
  go_wp2_with fail
  refine (iCircuitOk_any gs os _ _ _ _ _ hm hm2 (HR.out.below (by (repeat (first | with_reducible exact Below.refl _ _ | (with_reducible refine bel_next ?_ ?_ (by assumption)) | (with_reducible refine Below.alloc ?_ ?_ _) | (with_reducible refine Below.drew ?_) | (with_reducible refine below_drewN ?_ _) | (with_reducible refine Below.setCell ?_ ?_ _))) <;> (first | omega | (simp; done) | (simp; omega)))) (HR2.out.below (by (repeat (first | with_reducible exact Below.refl _ _ | (with_reducible refine bel_next ?_ ?_ (by assumption)) | (with_reducible refine Below.alloc ?_ ?_ _) | (with_reducible refine Below.drew ?_) | (with_reducible refine below_drewN ?_ _) | (with_reducible refine Below.setCell ?_ ?_ _))) <;> (first | omega | (simp; done) | (simp; omega))))).mono ?_
  rintro e w1 ⟨rfl, hb1⟩
  rw [HC.out]
  have z1 := hb1.size
  (try simp at z1)
  have y1a : w.heap.size < w1.heap.size := (by omega)
  have y1b : w.heap.size + 1 < w1.heap.size := (by omega)
  have k1_0 := bel_keeps hb1 (b := w.heap.size) (o := 0) (v := .slice a1 gs.length c1) (by first | (go_simp; done) | assumption)
  have k1_1 := bel_keeps hb1 (b := w.heap.size) (o := 1) (v := .slice a2 os.length c2) (by first | (go_simp; done) | assumption)
  have k1_2 := bel_keeps hb1 (b := w.heap.size + 1) (o := 0) (v := .slice none 0 0) (by first | (go_simp; done) | assumption)
  have k1_3 := bel_keeps hb1 (b := w.heap.size + 1) (o := 1) (v := .slice none 0 0) (by first | (go_simp; done) | assumption)
  have f1_0 := bel_free hb1 (b := w.heap.size + 1) (o := 0) (by first | omega | (simp; done) | (simp; omega)) (by first | (go_simp; done) | assumption)
  have f1_1 := bel_free hb1 (b := w.heap.size + 1) (o := 1) (by first | omega | (simp; done) | (simp; omega)) (by first | (go_simp; done) | assumption)
  have za0 : w.heap.size < w1.heap.size + 1 := by omega
  have za1 : w.heap.size < w1.heap.size + 1 + 1 := by omega
  have za2 : w.heap.size < w1.heap.size + 2 := by omega
  have zb0 : w.heap.size + 1 < w1.heap.size + 1 := by omega
  have zb1 : w.heap.size + 1 < w1.heap.size + 1 + 1 := by omega
  have zb2 : w.heap.size + 1 < w1.heap.size + 2 := by omega
  have hcm : ∀ b o, b < w1.heap.size → (w1.alloc (.map #[] 0)).cell? ⟨b, o, none⟩ = w1.cell? ⟨b, o, none⟩ := fun b o h => cell_blk (Below.heap_alloc _ _ _ h) o
  have hfm : ∀ b o, b < w1.heap.size → (w1.alloc (.map #[] 0)).frozen? ⟨b, o, none⟩ = w1.frozen? ⟨b, o, none⟩ := fun b o h => free_blk (Below.heap_alloc _ _ _ h) o
  go_wp2_with fail
  clear hmm
  obtain ⟨M, hM⟩ : ∃ x, x = w1.heap.size := ⟨_, rfl⟩
  obtain ⟨w4, hw4⟩ : ∃ W, W = ((w1.alloc (.map #[] 0)).alloc (.cells #[.slice none 0 0, .map (some w1.heap.size)] 75)).alloc (.cells #[] 3) := ⟨_, rfl⟩
  rw [← hw4, ← hM]
  have q0 : w4.cell? ⟨w.heap.size, 0, none⟩ = some (.slice a1 gs.length c1) := by rw [hw4]; go_simp
  have q1 : w4.cell? ⟨w.heap.size, 1, none⟩ = some (.slice a2 os.length c2) := by rw [hw4]; go_simp
  have q2 : w4.cell? ⟨w.heap.size + 1, 0, none⟩ = some (.slice none 0 0) := by rw [hw4]; go_simp
  have q3 : w4.cell? ⟨w.heap.size + 1, 1, none⟩ = some (.slice none 0 0) := by rw [hw4]; go_simp
  have f0 : w4.frozen? ⟨w.heap.size + 1, 0, none⟩ = false := by rw [hw4]; go_simp
  have f1 : w4.frozen? ⟨w.heap.size + 1, 1, none⟩ = false := by rw [hw4]; go_simp
  have eM : (w1.alloc (.map #[] 0)).heap.size = M + 1 := by rw [hM]; simp
  have hMK : MapK (w1.alloc (.map #[] 0)) M [] := by rw [hM]; exact MapK.made w1
  have hb0 : Below (M + 1) (w1.alloc (.map #[] 0)) ((w1.alloc (.map #[] 0)).alloc (.cells #[.slice none 0 0, .map (some w1.heap.size)] 75)) := (Below.refl _ _).alloc (by omega) _
  have hB0 : Bld ((w1.alloc (.map #[] 0)).alloc (.cells #[.slice none 0 0, .map (some w1.heap.size)] 75)) M (M + 1) [] (.map (some M)) := ⟨by rw [hM]; simp, by omega, by rw [hM]; simp <;> omega, ⟨none, 0, by rw [hM]; go_simp, Own.nil _ _ _ _, fun a h => by cases h⟩, by rw [hM]; go_simp, by rw [hM]; go_simp, by rw [hM]; go_simp⟩
  have hgb : gblk ((w1.alloc (.map #[] 0)).alloc (.cells #[.slice none 0 0, .map (some w1.heap.size)] 75)) (M + 1) = none := by (unfold gblk; rw [hM]; go_simp)
  have hS0 : Smp ((w1.alloc (.map #[] 0)).alloc (.cells #[.slice none 0 0, .map (some w1.heap.size)] 75)) M (M + 1) M [] := ⟨hB0, hMK.blk (hb0.block M (by omega)), ⟨by rw [hM]; simp <;> omega, by omega, by rw [hgb]; intro h; cases h⟩, Nat.le_refl _, by intro g h; cases h⟩
  have hB4 : Smp w4 M (M + 1) M (simpT (gs.take 0)).1 := by rw [hw4]; exact hS0.al _
  have hF4 : Frn w4 (M + 1) (M + 2) := by rw [hw4]; have := hB0.new_list (.cells #[] 3); simpa [hM] using this
  have hT4 : Own w4 (M + 2) 3 1 (some ⟨M + 2, 0, none⟩) 0 0 (I64 (simpT (gs.take 0)).2) := by
    have h0 := own_new ((w1.alloc (.map #[] 0)).alloc (.cells #[.slice none 0 0, .map (some w1.heap.size)] 75)) 3 1
    rw [← hw4] at h0
    have e : ((w1.alloc (.map #[] 0)).alloc (.cells #[.slice none 0 0, .map (some w1.heap.size)] 75)).heap.size = M + 2 := by rw [hM]; simp
    rw [e] at h0
    exact h0
  have hL4 : Below w.heap.size w w4 := by rw [hw4]; exact (by (repeat (first | with_reducible exact Below.refl _ _ | (with_reducible refine bel_next ?_ ?_ (by assumption)) | (with_reducible refine Below.alloc ?_ ?_ _) | (with_reducible refine Below.drew ?_) | (with_reducible refine below_drewN ?_ _) | (with_reducible refine Below.setCell ?_ ?_ _))) <;> (first | omega | (simp; done) | (simp; omega)))
  have hs4 : M + 3 ≤ w4.heap.size := by rw [hw4, hM]; simp
  have xH : w.heap.size + 1 < M := by omega
  have HB4 := Lib.hid hB4
  have HF4 := Lib.hid hF4
  have HT4 := Lib.hid hT4
  clear za0 za1 za2 zb0 zb1 zb2 hcm hfm hB0 hS0 hb0 hgb eM hMK hB4 hF4 hT4 hM hw4 hb1 k1_0 k1_1 k1_2 k1_3 f1_0 f1_1 z1 y1a y1b
  go_wp2_with fail
  go_loopw [4, 23] (fun v i wr => ∃ (k ct gt : Nat) (G : List Gt) (T : List Int), k ≤ gs.length ∧ i = .int .i64 k ∧ v = .slice (some ⟨gt, 0, none⟩) k ct ∧ wr.cell? ⟨w.heap.size, 0, none⟩ = some (.slice a1 gs.length c1) ∧ wr.cell? ⟨w.heap.size, 1, none⟩ = some (.slice a2 os.length c2) ∧ wr.cell? ⟨w.heap.size + 1, 0, none⟩ = some (.slice none 0 0) ∧ wr.cell? ⟨w.heap.size + 1, 1, none⟩ = some (.slice none 0 0) ∧ wr.frozen? ⟨w.heap.size + 1, 0, none⟩ = false ∧ wr.frozen? ⟨w.heap.size + 1, 1, none⟩ = false ∧ simpT (gs.take k) = (G, T) ∧
      Smp wr M (M + 1) M G ∧ Own wr (M + 2) 3 1 (some ⟨gt, 0, none⟩) k ct (I64 T) ∧ Frn wr (M + 1) gt ∧ Below w.heap.size w wr) (fun _ i _ => gs.length - (intOf i).toNat)
  case atStart => exact ⟨0, 0, M + 2, _, _, Nat.zero_le _, rfl, rfl, q0, q1, q2, q3, f0, f1, rfl, HB4.out, HT4.out, HF4.out, hL4⟩
  case round =>
    clear q0 q1 q2 q3 f0 f1 HB4 HF4 HT4 hL4 hs4
    obtain ⟨k, ct, gt, G, T, hk, rfl, rfl, q0, q1, q2, q3, f0, f1, hsp, hB, hT, hF, hbw⟩ := hrel
    have zr := hbw.size
    have hXl := hB.b.lt
    have HB := Lib.hid hB
    have HT := Lib.hid hT
    have HF := Lib.hid hF
    have HS := Lib.hid hsp
    have gtl := hT.ge
    clear hB hT hF hsp
    have na : w.heap.size ≠ wr.heap.size := by omega
    have nb : w.heap.size < wr.heap.size := by omega
    have nc : w.heap.size + 1 ≠ wr.heap.size := by omega
    have nd : w.heap.size + 1 < wr.heap.size := by omega
    have ne : gt ≠ wr.heap.size := by omega
    have nf : gt < wr.heap.size := by omega
    have ng : gt ≠ M := by omega
    by_cases hlt : k < gs.length
    · obtain ⟨b, off, kd, ga, gb, rfl, hbl, hx, c0, c1', c2'⟩ := (HR.out.below hbw).gt k hlt
      have hgk : gateOk kd ga gb k = true := gates_at HC.out hx
      have gcs := gate_cases hgk
      obtain ⟨hok, hnd, hTl, hGl, hto, hst⟩ := simp_round HC.out hx HS.out
      have HOK := Lib.hid hok
      have HND := Lib.hid hnd
      have HTO := Lib.hid hto
      have HST := Lib.hid hst
      have HTL := Lib.hid hTl
      have hk' : (k : Int) < (gs.length : Int) := by omega
      clear hx hgk hok hnd hTl hto hst
      rcases gcs with ⟨rfl, rfl, q1', q2'⟩ | ⟨rfl, rfl, q1', q2'⟩ | ⟨rfl, q1', q2', q3', q4'⟩ | ⟨rfl, q1', q2', q3', q4'⟩ | ⟨rfl, rfl, q1', q2'⟩
      · have HN : Hid (simpT (gs.take (k + 1)) = ((gGate G ⟨1, ga, 0⟩).1, T ++ [(gGate G ⟨1, ga, 0⟩).2])) := by show _ = _; rw [HST.out, simpS_1]
        have HW := Lib.hid (HB.out.al (.cells #[.int .i64 1, .int .i64 ga, .int .i64 0] 50))
        go_wp2_with fail
        refine (sgate_any G 1 ga 0 M (M + 1) M _ HW.out HND.out (wfG_mk (by omega) (by omega) (by omega)) (by omega)).mono ?_
        rintro e w5 ⟨rfl, hB5, hF5, hL5⟩
        have hFF : Fr2 (M + 1) M wr w5 := (Fr.al HB.out.b _).two.trans hF5
        have hLL : Below M wr w5 := by exact (by (repeat (first | with_reducible exact Below.refl _ _ | (with_reducible refine bel_next ?_ ?_ (by assumption)) | (with_reducible refine Below.alloc ?_ ?_ _) | (with_reducible refine Below.drew ?_) | (with_reducible refine below_drewN ?_ _) | (with_reducible refine Below.setCell ?_ ?_ _))) <;> (first | omega | (simp; done) | (simp; omega)))
        obtain ⟨R, hR⟩ : ∃ R, R = gGate G ⟨1, ga, 0⟩ := ⟨_, rfl⟩
        rw [← hR] at hB5 HN ⊢
        clear hR
        have zz := hLL.size
        have r0 := lo_keeps hLL (b := w.heap.size) (o := 0) (by omega) q0
        have r1 := lo_keeps hLL (b := w.heap.size) (o := 1) (by omega) q1
        have r2 := lo_keeps hLL (b := w.heap.size + 1) (o := 0) (by omega) q2
        have r3 := lo_keeps hLL (b := w.heap.size + 1) (o := 1) (by omega) q3
        have s0 := lo_free hLL (b := w.heap.size + 1) (o := 0) (by omega) f0
        have s1 := lo_free hLL (b := w.heap.size + 1) (o := 1) (by omega) f1
        have hT5 := HT.out.later (hFF.kp HF.out ng)
        have hf5 := hFF.frn HF.out ng
        have hbw5 : Below w.heap.size w w5 := hbw.trans (hLL.mono (by omega))
        have HT5 := Lib.hid hT5
        have HB5 := Lib.hid hB5
        have HF5 := Lib.hid hf5
        have HBW5 := Lib.hid hbw5
        clear q0 q1 q2 q3 f0 f1 hT5 hf5 hbw5 hB5 hF5 hL5 hFF hLL HW c0 c1' c2' hbw
        go_wp2_with (refine wpList_push _ rfl (.tmp 61) (.tmp 63) rfl (M + 2) gt k ct T R.2 w5.heap.size 1 (by rfl) (by rfl) (HT5.out.alloc _) (by go_simp) (by omega) (by simp; omega) ?_; intro g6 d6 w6 ho6 hb6 hg6 hat6)
        have HP := HB5.out.b.push_to HF5.out _ hg6 hat6 ho6.ge.2
        have hfm := HP.2.2 M HB5.out.f (by omega)
        have HS6 : Smp w6 M (M + 1) M R.1 := ⟨HP.1, HB5.out.m.blk (hfm.1 HB5.out.f.1).1, hfm.2, Nat.le_refl _, HB5.out.wf⟩
        have hL6 : Below M w5 w6 := ((Below.refl _ _).alloc (by omega) _).trans (hb6.mono (by omega))
        have q0 := lo_keeps hL6 (b := w.heap.size) (o := 0) (by omega) r0
        have q1 := lo_keeps hL6 (b := w.heap.size) (o := 1) (by omega) r1
        have q2 := lo_keeps hL6 (b := w.heap.size + 1) (o := 0) (by omega) r2
        have q3 := lo_keeps hL6 (b := w.heap.size + 1) (o := 1) (by omega) r3
        have f0 := lo_free hL6 (b := w.heap.size + 1) (o := 0) (by omega) s0
        have f1 := lo_free hL6 (b := w.heap.size + 1) (o := 1) (by omega) s1
        clear r0 r1 r2 r3 s0 s1
        go_wp2_with fail
        go_roundw
        case rel => exact ⟨k + 1, d6, g6, _, _, by omega, by go_num, rfl, q0, q1, q2, q3, f0, f1, HN.out, HS6, ho6, HP.2.1, HBW5.out.trans (hL6.mono (by omega))⟩
        case measure => first | (simp [intOf]; done) | (simp [intOf]; omega)
      · have HN : Hid (simpT (gs.take (k + 1)) = ((gGate G ⟨2, ga, 0⟩).1, T ++ [(gGate G ⟨2, ga, 0⟩).2])) := by show _ = _; rw [HST.out, simpS_2]
        have HW := Lib.hid (HB.out.al (.cells #[.int .i64 2, .int .i64 ga, .int .i64 0] 50))
        go_wp2_with fail
        refine (sgate_any G 2 ga 0 M (M + 1) M _ HW.out HND.out (wfG_mk (by omega) (by omega) (by omega)) (by omega)).mono ?_
        rintro e w5 ⟨rfl, hB5, hF5, hL5⟩
        have hFF : Fr2 (M + 1) M wr w5 := (Fr.al HB.out.b _).two.trans hF5
        have hLL : Below M wr w5 := by exact (by (repeat (first | with_reducible exact Below.refl _ _ | (with_reducible refine bel_next ?_ ?_ (by assumption)) | (with_reducible refine Below.alloc ?_ ?_ _) | (with_reducible refine Below.drew ?_) | (with_reducible refine below_drewN ?_ _) | (with_reducible refine Below.setCell ?_ ?_ _))) <;> (first | omega | (simp; done) | (simp; omega)))
        obtain ⟨R, hR⟩ : ∃ R, R = gGate G ⟨2, ga, 0⟩ := ⟨_, rfl⟩
        rw [← hR] at hB5 HN ⊢
        clear hR
        have zz := hLL.size
        have r0 := lo_keeps hLL (b := w.heap.size) (o := 0) (by omega) q0
        have r1 := lo_keeps hLL (b := w.heap.size) (o := 1) (by omega) q1
        have r2 := lo_keeps hLL (b := w.heap.size + 1) (o := 0) (by omega) q2
        have r3 := lo_keeps hLL (b := w.heap.size + 1) (o := 1) (by omega) q3
        have s0 := lo_free hLL (b := w.heap.size + 1) (o := 0) (by omega) f0
        have s1 := lo_free hLL (b := w.heap.size + 1) (o := 1) (by omega) f1
        have hT5 := HT.out.later (hFF.kp HF.out ng)
        have hf5 := hFF.frn HF.out ng
        have hbw5 : Below w.heap.size w w5 := hbw.trans (hLL.mono (by omega))
        have HT5 := Lib.hid hT5
        have HB5 := Lib.hid hB5
        have HF5 := Lib.hid hf5
        have HBW5 := Lib.hid hbw5
        clear q0 q1 q2 q3 f0 f1 hT5 hf5 hbw5 hB5 hF5 hL5 hFF hLL HW c0 c1' c2' hbw
        go_wp2_with (refine wpList_push _ rfl (.tmp 61) (.tmp 63) rfl (M + 2) gt k ct T R.2 w5.heap.size 1 (by rfl) (by rfl) (HT5.out.alloc _) (by go_simp) (by omega) (by simp; omega) ?_; intro g6 d6 w6 ho6 hb6 hg6 hat6)
        have HP := HB5.out.b.push_to HF5.out _ hg6 hat6 ho6.ge.2
        have hfm := HP.2.2 M HB5.out.f (by omega)
        have HS6 : Smp w6 M (M + 1) M R.1 := ⟨HP.1, HB5.out.m.blk (hfm.1 HB5.out.f.1).1, hfm.2, Nat.le_refl _, HB5.out.wf⟩
        have hL6 : Below M w5 w6 := ((Below.refl _ _).alloc (by omega) _).trans (hb6.mono (by omega))
        have q0 := lo_keeps hL6 (b := w.heap.size) (o := 0) (by omega) r0
        have q1 := lo_keeps hL6 (b := w.heap.size) (o := 1) (by omega) r1
        have q2 := lo_keeps hL6 (b := w.heap.size + 1) (o := 0) (by omega) r2
        have q3 := lo_keeps hL6 (b := w.heap.size + 1) (o := 1) (by omega) r3
        have f0 := lo_free hL6 (b := w.heap.size + 1) (o := 0) (by omega) s0
        have f1 := lo_free hL6 (b := w.heap.size + 1) (o := 1) (by omega) s1
        clear r0 r1 r2 r3 s0 s1
        go_wp2_with fail
        go_roundw
        case rel => exact ⟨k + 1, d6, g6, _, _, by omega, by go_num, rfl, q0, q1, q2, q3, f0, f1, HN.out, HS6, ho6, HP.2.1, HBW5.out.trans (hL6.mono (by omega))⟩
        case measure => first | (simp [intOf]; done) | (simp [intOf]; omega)
      · obtain ⟨n, rfl⟩ := Int.eq_ofNat_of_zero_le q1'
        have n1 : n < k := by omega
        have n2 : (n : Int) < (k : Int) := by omega
        obtain ⟨t1, t2⟩ := HT.out.intF n (by rw [HTL.out]; exact n1)
        have ra := HTO.out n n1
        obtain ⟨va, hva⟩ : ∃ v, v = at0 T (n : Int) := ⟨_, rfl⟩
        rw [← hva] at t1 ra
        obtain ⟨n', rfl⟩ := Int.eq_ofNat_of_zero_le q3'
        have m1 : n' < k := by omega
        have m2 : (n' : Int) < (k : Int) := by omega
        obtain ⟨t3, t4⟩ := HT.out.intF n' (by rw [HTL.out]; exact m1)
        have rb := HTO.out n' m1
        obtain ⟨vb, hvb⟩ : ∃ v, v = at0 T (n' : Int) := ⟨_, rfl⟩
        rw [← hvb] at t3 rb
        have HN : Hid (simpT (gs.take (k + 1)) = ((gXor G va vb).1, T ++ [(gXor G va vb).2])) := by show _ = _; rw [HST.out, simpS_3, ← hva, ← hvb]
        clear hva hvb
        have HW := Lib.hid (HB.out.al (.cells #[.int .i64 3, .int .i64 n, .int .i64 n'] 50))
        go_wp2_with fail
        obtain ⟨wa, hwa⟩ : ∃ W, W = wr.alloc (.cells #[.int .i64 3, .int .i64 n, .int .i64 n'] 50) := ⟨_, rfl⟩
        have e00 : wa.cell? ⟨wr.heap.size, 0, none⟩ = some (.int .i64 3) := by rw [hwa]; go_simp
        have e0 : wa.cell? ⟨wr.heap.size, 1, none⟩ = some (.int .i64 n) := by rw [hwa]; go_simp
        have e1 : wa.cell? ⟨wr.heap.size, 2, none⟩ = some (.int .i64 n') := by rw [hwa]; go_simp
        have e2 : wa.cell? ⟨gt, n, none⟩ = some (.int .i64 va) := by rw [hwa]; go_simp
        have e3 : wa.cell? ⟨gt, n', none⟩ = some (.int .i64 vb) := by rw [hwa]; go_simp
        have HWA := Lib.hid (show Smp wa M (M + 1) M G from by rw [hwa]; exact HW.out)
        have hFa : Fr (M + 1) wr wa := by rw [hwa]; exact Fr.al HB.out.b _
        have hLa : Below M wr wa := by rw [hwa]; exact (by (repeat (first | with_reducible exact Below.refl _ _ | (with_reducible refine bel_next ?_ ?_ (by assumption)) | (with_reducible refine Below.alloc ?_ ?_ _) | (with_reducible refine Below.drew ?_) | (with_reducible refine below_drewN ?_ _) | (with_reducible refine Below.setCell ?_ ?_ _))) <;> (first | omega | (simp; done) | (simp; omega)))
        rw [← hwa]
        clear hwa
        go_still_tail 13, (by kernel_rfl)
        change wpList _ _ _ _ _ (World.drew _)
        go_wp2_with fail
        refine (sgXor_any G va vb M (M + 1) M _ (HWA.out.below ((Below.refl _ _).drew)) HND.out HOK.out (by omega) ra.1 ra.2 rb.1 rb.2).mono ?_
        rintro e w5 ⟨rfl, hB5, hF5, hL5⟩
        have hFF : Fr2 (M + 1) M wr w5 := ((hFa.trans (Fr.dr HWA.out.b)).two).trans hF5
        have hLL : Below M wr w5 := by exact (hLa.drew).trans hL5
        obtain ⟨R, hR⟩ : ∃ R, R = gXor G va vb := ⟨_, rfl⟩
        rw [← hR] at hB5 HN ⊢
        clear hR
        have zz := hLL.size
        have r0 := lo_keeps hLL (b := w.heap.size) (o := 0) (by omega) q0
        have r1 := lo_keeps hLL (b := w.heap.size) (o := 1) (by omega) q1
        have r2 := lo_keeps hLL (b := w.heap.size + 1) (o := 0) (by omega) q2
        have r3 := lo_keeps hLL (b := w.heap.size + 1) (o := 1) (by omega) q3
        have s0 := lo_free hLL (b := w.heap.size + 1) (o := 0) (by omega) f0
        have s1 := lo_free hLL (b := w.heap.size + 1) (o := 1) (by omega) f1
        have hT5 := HT.out.later (hFF.kp HF.out ng)
        have hf5 := hFF.frn HF.out ng
        have hbw5 : Below w.heap.size w w5 := hbw.trans (hLL.mono (by omega))
        have HT5 := Lib.hid hT5
        have HB5 := Lib.hid hB5
        have HF5 := Lib.hid hf5
        have HBW5 := Lib.hid hbw5
        clear q0 q1 q2 q3 f0 f1 hT5 hf5 hbw5 hB5 hF5 hL5 hFF hLL HW c0 c1' c2' hbw t1 t2 t3 t4
        go_wp2_with (refine wpList_push _ rfl (.tmp 61) (.tmp 63) rfl (M + 2) gt k ct T R.2 w5.heap.size 1 (by rfl) (by rfl) (HT5.out.alloc _) (by go_simp) (by omega) (by simp; omega) ?_; intro g6 d6 w6 ho6 hb6 hg6 hat6)
        have HP := HB5.out.b.push_to HF5.out _ hg6 hat6 ho6.ge.2
        have hfm := HP.2.2 M HB5.out.f (by omega)
        have HS6 : Smp w6 M (M + 1) M R.1 := ⟨HP.1, HB5.out.m.blk (hfm.1 HB5.out.f.1).1, hfm.2, Nat.le_refl _, HB5.out.wf⟩
        have hL6 : Below M w5 w6 := ((Below.refl _ _).alloc (by omega) _).trans (hb6.mono (by omega))
        have q0 := lo_keeps hL6 (b := w.heap.size) (o := 0) (by omega) r0
        have q1 := lo_keeps hL6 (b := w.heap.size) (o := 1) (by omega) r1
        have q2 := lo_keeps hL6 (b := w.heap.size + 1) (o := 0) (by omega) r2
        have q3 := lo_keeps hL6 (b := w.heap.size + 1) (o := 1) (by omega) r3
        have f0 := lo_free hL6 (b := w.heap.size + 1) (o := 0) (by omega) s0
        have f1 := lo_free hL6 (b := w.heap.size + 1) (o := 1) (by omega) s1
        clear r0 r1 r2 r3 s0 s1
        go_wp2_with fail
        go_roundw
        case rel => exact ⟨k + 1, d6, g6, _, _, by omega, by go_num, rfl, q0, q1, q2, q3, f0, f1, HN.out, HS6, ho6, HP.2.1, HBW5.out.trans (hL6.mono (by omega))⟩
        case measure => first | (simp [intOf]; done) | (simp [intOf]; omega)
      · obtain ⟨n, rfl⟩ := Int.eq_ofNat_of_zero_le q1'
        have n1 : n < k := by omega
        have n2 : (n : Int) < (k : Int) := by omega
        obtain ⟨t1, t2⟩ := HT.out.intF n (by rw [HTL.out]; exact n1)
        have ra := HTO.out n n1
        obtain ⟨va, hva⟩ : ∃ v, v = at0 T (n : Int) := ⟨_, rfl⟩
        rw [← hva] at t1 ra
        obtain ⟨n', rfl⟩ := Int.eq_ofNat_of_zero_le q3'
        have m1 : n' < k := by omega
        have m2 : (n' : Int) < (k : Int) := by omega
        obtain ⟨t3, t4⟩ := HT.out.intF n' (by rw [HTL.out]; exact m1)
        have rb := HTO.out n' m1
        obtain ⟨vb, hvb⟩ : ∃ v, v = at0 T (n' : Int) := ⟨_, rfl⟩
        rw [← hvb] at t3 rb
        have HN : Hid (simpT (gs.take (k + 1)) = ((gAnd G va vb).1, T ++ [(gAnd G va vb).2])) := by show _ = _; rw [HST.out, simpS_4, ← hva, ← hvb]
        clear hva hvb
        have HW := Lib.hid (HB.out.al (.cells #[.int .i64 4, .int .i64 n, .int .i64 n'] 50))
        go_wp2_with fail
        obtain ⟨wa, hwa⟩ : ∃ W, W = wr.alloc (.cells #[.int .i64 4, .int .i64 n, .int .i64 n'] 50) := ⟨_, rfl⟩
        have e00 : wa.cell? ⟨wr.heap.size, 0, none⟩ = some (.int .i64 4) := by rw [hwa]; go_simp
        have e0 : wa.cell? ⟨wr.heap.size, 1, none⟩ = some (.int .i64 n) := by rw [hwa]; go_simp
        have e1 : wa.cell? ⟨wr.heap.size, 2, none⟩ = some (.int .i64 n') := by rw [hwa]; go_simp
        have e2 : wa.cell? ⟨gt, n, none⟩ = some (.int .i64 va) := by rw [hwa]; go_simp
        have e3 : wa.cell? ⟨gt, n', none⟩ = some (.int .i64 vb) := by rw [hwa]; go_simp
        have HWA := Lib.hid (show Smp wa M (M + 1) M G from by rw [hwa]; exact HW.out)
        have hFa : Fr (M + 1) wr wa := by rw [hwa]; exact Fr.al HB.out.b _
        have hLa : Below M wr wa := by rw [hwa]; exact (by (repeat (first | with_reducible exact Below.refl _ _ | (with_reducible refine bel_next ?_ ?_ (by assumption)) | (with_reducible refine Below.alloc ?_ ?_ _) | (with_reducible refine Below.drew ?_) | (with_reducible refine below_drewN ?_ _) | (with_reducible refine Below.setCell ?_ ?_ _))) <;> (first | omega | (simp; done) | (simp; omega)))
        rw [← hwa]
        clear hwa
        go_still_tail 13, (by kernel_rfl)
        change wpList _ _ _ _ _ (World.drew _)
        go_wp2_with fail
        refine (sgAnd_any G va vb M (M + 1) M _ (HWA.out.below ((Below.refl _ _).drew)) HND.out HOK.out (by omega) ra.1 ra.2 rb.1 rb.2).mono ?_
        rintro e w5 ⟨rfl, hB5, hF5, hL5⟩
        have hFF : Fr2 (M + 1) M wr w5 := ((hFa.trans (Fr.dr HWA.out.b)).two).trans hF5
        have hLL : Below M wr w5 := by exact (hLa.drew).trans hL5
        obtain ⟨R, hR⟩ : ∃ R, R = gAnd G va vb := ⟨_, rfl⟩
        rw [← hR] at hB5 HN ⊢
        clear hR
        have zz := hLL.size
        have r0 := lo_keeps hLL (b := w.heap.size) (o := 0) (by omega) q0
        have r1 := lo_keeps hLL (b := w.heap.size) (o := 1) (by omega) q1
        have r2 := lo_keeps hLL (b := w.heap.size + 1) (o := 0) (by omega) q2
        have r3 := lo_keeps hLL (b := w.heap.size + 1) (o := 1) (by omega) q3
        have s0 := lo_free hLL (b := w.heap.size + 1) (o := 0) (by omega) f0
        have s1 := lo_free hLL (b := w.heap.size + 1) (o := 1) (by omega) f1
        have hT5 := HT.out.later (hFF.kp HF.out ng)
        have hf5 := hFF.frn HF.out ng
        have hbw5 : Below w.heap.size w w5 := hbw.trans (hLL.mono (by omega))
        have HT5 := Lib.hid hT5
        have HB5 := Lib.hid hB5
        have HF5 := Lib.hid hf5
        have HBW5 := Lib.hid hbw5
        clear q0 q1 q2 q3 f0 f1 hT5 hf5 hbw5 hB5 hF5 hL5 hFF hLL HW c0 c1' c2' hbw t1 t2 t3 t4
        go_wp2_with (refine wpList_push _ rfl (.tmp 61) (.tmp 63) rfl (M + 2) gt k ct T R.2 w5.heap.size 1 (by rfl) (by rfl) (HT5.out.alloc _) (by go_simp) (by omega) (by simp; omega) ?_; intro g6 d6 w6 ho6 hb6 hg6 hat6)
        have HP := HB5.out.b.push_to HF5.out _ hg6 hat6 ho6.ge.2
        have hfm := HP.2.2 M HB5.out.f (by omega)
        have HS6 : Smp w6 M (M + 1) M R.1 := ⟨HP.1, HB5.out.m.blk (hfm.1 HB5.out.f.1).1, hfm.2, Nat.le_refl _, HB5.out.wf⟩
        have hL6 : Below M w5 w6 := ((Below.refl _ _).alloc (by omega) _).trans (hb6.mono (by omega))
        have q0 := lo_keeps hL6 (b := w.heap.size) (o := 0) (by omega) r0
        have q1 := lo_keeps hL6 (b := w.heap.size) (o := 1) (by omega) r1
        have q2 := lo_keeps hL6 (b := w.heap.size + 1) (o := 0) (by omega) r2
        have q3 := lo_keeps hL6 (b := w.heap.size + 1) (o := 1) (by omega) r3
        have f0 := lo_free hL6 (b := w.heap.size + 1) (o := 0) (by omega) s0
        have f1 := lo_free hL6 (b := w.heap.size + 1) (o := 1) (by omega) s1
        clear r0 r1 r2 r3 s0 s1
        go_wp2_with fail
        go_roundw
        case rel => exact ⟨k + 1, d6, g6, _, _, by omega, by go_num, rfl, q0, q1, q2, q3, f0, f1, HN.out, HS6, ho6, HP.2.1, HBW5.out.trans (hL6.mono (by omega))⟩
        case measure => first | (simp [intOf]; done) | (simp [intOf]; omega)
      · obtain ⟨n, rfl⟩ := Int.eq_ofNat_of_zero_le q1'
        have n1 : n < k := by omega
        have n2 : (n : Int) < (k : Int) := by omega
        obtain ⟨t1, t2⟩ := HT.out.intF n (by rw [HTL.out]; exact n1)
        have ra := HTO.out n n1
        obtain ⟨va, hva⟩ : ∃ v, v = at0 T (n : Int) := ⟨_, rfl⟩
        rw [← hva] at t1 ra
        have HN : Hid (simpT (gs.take (k + 1)) = ((gNot G va).1, T ++ [(gNot G va).2])) := by show _ = _; rw [HST.out, simpS_5, ← hva]
        clear hva
        have HW := Lib.hid (HB.out.al (.cells #[.int .i64 5, .int .i64 n, .int .i64 0] 50))
        go_wp2_with fail
        refine (snot_any G va M (M + 1) M _ HW.out HND.out HOK.out (by omega) ra.1 ra.2).mono ?_
        rintro e w5 ⟨rfl, hB5, hF5, hL5⟩
        have hFF : Fr2 (M + 1) M wr w5 := (Fr.al HB.out.b _).two.trans hF5
        have hLL : Below M wr w5 := by exact (by (repeat (first | with_reducible exact Below.refl _ _ | (with_reducible refine bel_next ?_ ?_ (by assumption)) | (with_reducible refine Below.alloc ?_ ?_ _) | (with_reducible refine Below.drew ?_) | (with_reducible refine below_drewN ?_ _) | (with_reducible refine Below.setCell ?_ ?_ _))) <;> (first | omega | (simp; done) | (simp; omega)))
        obtain ⟨R, hR⟩ : ∃ R, R = gNot G va := ⟨_, rfl⟩
        rw [← hR] at hB5 HN ⊢
        clear hR
        have zz := hLL.size
        have r0 := lo_keeps hLL (b := w.heap.size) (o := 0) (by omega) q0
        have r1 := lo_keeps hLL (b := w.heap.size) (o := 1) (by omega) q1
        have r2 := lo_keeps hLL (b := w.heap.size + 1) (o := 0) (by omega) q2
        have r3 := lo_keeps hLL (b := w.heap.size + 1) (o := 1) (by omega) q3
        have s0 := lo_free hLL (b := w.heap.size + 1) (o := 0) (by omega) f0
        have s1 := lo_free hLL (b := w.heap.size + 1) (o := 1) (by omega) f1
        have hT5 := HT.out.later (hFF.kp HF.out ng)
        have hf5 := hFF.frn HF.out ng
        have hbw5 : Below w.heap.size w w5 := hbw.trans (hLL.mono (by omega))
        have HT5 := Lib.hid hT5
        have HB5 := Lib.hid hB5
        have HF5 := Lib.hid hf5
        have HBW5 := Lib.hid hbw5
        clear q0 q1 q2 q3 f0 f1 hT5 hf5 hbw5 hB5 hF5 hL5 hFF hLL HW c0 c1' c2' hbw t1 t2
        go_wp2_with (refine wpList_push _ rfl (.tmp 61) (.tmp 63) rfl (M + 2) gt k ct T R.2 w5.heap.size 1 (by rfl) (by rfl) (HT5.out.alloc _) (by go_simp) (by omega) (by simp; omega) ?_; intro g6 d6 w6 ho6 hb6 hg6 hat6)
        have HP := HB5.out.b.push_to HF5.out _ hg6 hat6 ho6.ge.2
        have hfm := HP.2.2 M HB5.out.f (by omega)
        have HS6 : Smp w6 M (M + 1) M R.1 := ⟨HP.1, HB5.out.m.blk (hfm.1 HB5.out.f.1).1, hfm.2, Nat.le_refl _, HB5.out.wf⟩
        have hL6 : Below M w5 w6 := ((Below.refl _ _).alloc (by omega) _).trans (hb6.mono (by omega))
        have q0 := lo_keeps hL6 (b := w.heap.size) (o := 0) (by omega) r0
        have q1 := lo_keeps hL6 (b := w.heap.size) (o := 1) (by omega) r1
        have q2 := lo_keeps hL6 (b := w.heap.size + 1) (o := 0) (by omega) r2
        have q3 := lo_keeps hL6 (b := w.heap.size + 1) (o := 1) (by omega) r3
        have f0 := lo_free hL6 (b := w.heap.size + 1) (o := 0) (by omega) s0
        have f1 := lo_free hL6 (b := w.heap.size + 1) (o := 1) (by omega) s1
        clear r0 r1 r2 r3 s0 s1
        go_wp2_with fail
        go_roundw
        case rel => exact ⟨k + 1, d6, g6, _, _, by omega, by go_num, rfl, q0, q1, q2, q3, f0, f1, HN.out, HS6, ho6, HP.2.1, HBW5.out.trans (hL6.mono (by omega))⟩
        case measure => first | (simp [intOf]; done) | (simp [intOf]; omega)
    · have HK : Hid (simpT gs = (G, T)) := by show _ = _; have h := HS.out; rw [List.take_of_length_le (by omega)] at h; exact h
      have hk' : ¬ (k : Int) < (gs.length : Int) := by omega
      have hkl : k = gs.length := by omega
      subst hkl
      obtain ⟨ag, cg, q4', hog, hagX⟩ := HB.out.b.row
      have q5' := HB.out.b.snd
      have HTL : Hid (T.length = gs.length) := by show _ = _; have := (simpT_inv gs (circ_parts HC.out).1).len; rw [HK.out] at this; exact this
      have nM1 : M + 1 ≠ wr.heap.size := by omega
      have nM2 : M + 1 < wr.heap.size := by omega
      go_wp2_with fail
      obtain ⟨X, hX⟩ : ∃ x, x = wr.heap.size := ⟨_, rfl⟩
      obtain ⟨wz, hwz⟩ : ∃ W, W = wr.alloc (.cells #[.slice ag G.length cg, .slice none 0 0] 30) := ⟨_, rfl⟩
      rw [← hwz, ← hX]
      have e0 : wz.cell? ⟨w.heap.size, 0, none⟩ = some (.slice a1 gs.length c1) := by rw [hwz]; go_simp
      have e1 : wz.cell? ⟨w.heap.size, 1, none⟩ = some (.slice a2 os.length c2) := by rw [hwz]; go_simp
      have e2 : wz.cell? ⟨w.heap.size + 1, 0, none⟩ = some (.slice none 0 0) := by rw [hwz]; go_simp
      have e3 : wz.cell? ⟨w.heap.size + 1, 1, none⟩ = some (.slice none 0 0) := by rw [hwz]; go_simp
      have e4 : wz.cell? ⟨X, 0, none⟩ = some (.slice ag G.length cg) := by rw [hwz, hX]; go_simp
      have e5 : wz.cell? ⟨X, 1, none⟩ = some (.slice none 0 0) := by rw [hwz, hX]; go_simp
      have j0 : wz.frozen? ⟨w.heap.size + 1, 0, none⟩ = false := by rw [hwz]; go_simp
      have j1 : wz.frozen? ⟨w.heap.size + 1, 1, none⟩ = false := by rw [hwz]; go_simp
      have j2 : wz.frozen? ⟨X, 0, none⟩ = false := by rw [hwz, hX]; go_simp
      have j3 : wz.frozen? ⟨X, 1, none⟩ = false := by rw [hwz, hX]; go_simp
      have HT4 := Lib.hid (show Own wz (M + 2) 3 1 (some ⟨gt, 0, none⟩) gs.length ct (I64 T) by rw [hwz]; exact HT.out.alloc _)
      have HG4 := Lib.hid (show Own wz M 50 3 ag G.length cg (gtCells G) by rw [hwz]; exact hog.alloc _)
      have HAX := Lib.hid (show ∀ a, ag = some a → a.block < X from fun a ha => by rw [hX]; exact (hog.blk a ha).2.2.2)
      have HB4 := Lib.hid (show Below w.heap.size w wz by rw [hwz]; exact (by (repeat (first | with_reducible exact Below.refl _ _ | (with_reducible refine bel_next ?_ ?_ (by assumption)) | (with_reducible refine Below.alloc ?_ ?_ _) | (with_reducible refine Below.drew ?_) | (with_reducible refine below_drewN ?_ _) | (with_reducible refine Below.setCell ?_ ?_ _))) <;> (first | omega | (simp; done) | (simp; omega))))
      have x4 : X + 1 ≤ wz.heap.size := by rw [hwz, hX]; simp
      have gtX : gt < X := by omega
      have MX : w.heap.size + 1 < X := by omega
      clear HB HF HS HT hog hagX q0 q1 q2 q3 q4' q5' f0 f1 hX hwz hbw na nb nc nd ne nf ng nM1 nM2 gtl zr hXl
      go_wp2_with fail
      go_loopw [74] (fun i w2 => ∃ (k2 co : Nat) (ao : Option Addr), k2 ≤ os.length ∧ i = .int .i64 k2 ∧ w2.cell? ⟨w.heap.size, 0, none⟩ = some (.slice a1 gs.length c1) ∧ w2.cell? ⟨w.heap.size, 1, none⟩ = some (.slice a2 os.length c2) ∧ w2.cell? ⟨w.heap.size + 1, 0, none⟩ = some (.slice none 0 0) ∧ w2.cell? ⟨w.heap.size + 1, 1, none⟩ = some (.slice none 0 0) ∧ w2.cell? ⟨X, 0, none⟩ = some (.slice ag G.length cg) ∧ w2.cell? ⟨X, 1, none⟩ = some (.slice ao k2 co) ∧ w2.frozen? ⟨w.heap.size + 1, 0, none⟩ = false ∧ w2.frozen? ⟨w.heap.size + 1, 1, none⟩ = false ∧ w2.frozen? ⟨X, 0, none⟩ = false ∧ w2.frozen? ⟨X, 1, none⟩ = false ∧
          Own w2 (M + 2) 3 1 (some ⟨gt, 0, none⟩) gs.length ct (I64 T) ∧ Own w2 M 50 3 ag G.length cg (gtCells G) ∧ Own w2 (X + 1) 3 1 ao k2 co (I64 (outsOf T (os.take k2))) ∧ Below w.heap.size w w2 ∧ X + 1 ≤ w2.heap.size) (fun i _ => os.length - (intOf i).toNat)
      case atStart => exact ⟨0, 0, none, Nat.zero_le _, rfl, e0, e1, e2, e3, e4, e5, j0, j1, j2, j3, HT4.out, HG4.out, Own.nil _ _ _ _, HB4.out, x4⟩
      case round =>
        clear e0 e1 e2 e3 e4 e5 j0 j1 j2 j3 HT4 HG4 HB4 x4
        obtain ⟨k2, co, ao, hk2, rfl, q0, q1, q2, q3, q4, q5, f0, f1, f2, f3, hot, hog, hoq, hbw, hXl⟩ := hrel
        have zr := hbw.size
        have gtl := hot.ge
        have HT := Lib.hid hot
        have HG := Lib.hid hog
        have HQ := Lib.hid hoq
        have nX : X ≠ wr.heap.size := by omega
        have nX0 : X < wr.heap.size := by omega
        have nH0 : w.heap.size < wr.heap.size := by omega
        have nH1 : w.heap.size + 1 < wr.heap.size := by omega
        have nH2 : w.heap.size ≠ wr.heap.size := by omega
        have nH3 : w.heap.size + 1 ≠ wr.heap.size := by omega
        have ngt : gt < wr.heap.size := by omega
        have ngt' : gt ≠ wr.heap.size := by omega
        have nXc : gt ≠ X := by omega
        have nXa : X ≠ w.heap.size := by omega
        have nXb : X ≠ w.heap.size + 1 := by omega
        have nXh : w.heap.size ≠ X := by omega
        have nXi : w.heap.size + 1 ≠ X := by omega
        clear hot hog hoq
        by_cases hlt2 : k2 < os.length
        · obtain ⟨b, off, rfl, hcell⟩ := (HR2.out.below hbw).at k2 hlt2
          have hc := hcell k2 hlt2
          have hlt' : (k2 : Int) < (os.length : Int) := by omega
          have hy := outs_at HC.out hlt2
          have HS := Lib.hid (outsOf_snoc (ws := T) hlt2)
          obtain ⟨y, hyy⟩ : ∃ y, y = os[k2] := ⟨_, rfl⟩
          rw [← hyy] at hc hy HS
          clear hyy hcell
          have hbb := lt_of_cell hc
          simp only at hbb
          obtain ⟨n, rfl⟩ := Int.eq_ofNat_of_zero_le hy.1
          have n1 : n < gs.length := by omega
          have n2 : (n : Int) < (gs.length : Int) := by omega
          obtain ⟨t1, t2⟩ := HT.out.intF n (by have := HTL.out; omega)
          obtain ⟨va, hva⟩ : ∃ v, v = at0 T (n : Int) := ⟨_, rfl⟩
          rw [← hva] at t1 HS
          clear hva hy
          go_wp2_with fail
          go_region_law (first | (refine step_pushA _ rfl _ _ rfl (X + 1) k2 co ao (outsOf T (os.take k2)) va _ 1 (by rfl) (by rfl) (HQ.out.keep fun b hb => (by have hh := HQ.out.blk b hb; exact (by (repeat (first | with_reducible exact Kp.refl _ _ | (with_reducible refine Kp.rng ?_ (by assumption) ?_) | (with_reducible refine Kp.below ?_ (by assumption)) | (with_reducible refine Kp.grown ?_ (by assumption) ?_) | (with_reducible refine Kp.alloc ?_ _) | (with_reducible refine Kp.drew ?_) | (with_reducible refine Kp.drewN ?_ _) | (with_reducible refine Kp.setCell ?_ _ ?_))) <;> (first | omega | (simp; done) | (simp; omega))))) (by first | (go_simp; done) | assumption) (by omega) (by first | omega | (simp; done) | (simp; omega)) ?_; intro g5 d5 w5 ho5 hb5 hg5 hat5; have z5 := hb5.size; (try simp at z5); have y5 := hg5.size; (try simp at y5); have ge5 := ho5.ge; have y5a : w.heap.size < w5.heap.size := (by omega); have rk0 := grown_cellA hg5 (b := w.heap.size) (o := 0) (x := .slice a1 gs.length c1) (HQ.out.map_ne (by omega)) (by first | (go_simp; done) | assumption); have rk1 := grown_cellA hg5 (b := w.heap.size) (o := 1) (x := .slice (some ⟨b, off, none⟩) os.length c2) (HQ.out.map_ne (by omega)) (by first | (go_simp; done) | assumption); have rk2 := grown_cellA hg5 (b := w.heap.size + 1) (o := 0) (x := .slice none 0 0) (HQ.out.map_ne (by omega)) (by first | (go_simp; done) | assumption); have rk3 := grown_cellA hg5 (b := w.heap.size + 1) (o := 1) (x := .slice none 0 0) (HQ.out.map_ne (by omega)) (by first | (go_simp; done) | assumption); have rk4 := grown_cellA hg5 (b := X) (o := 0) (x := .slice ag G.length cg) (HQ.out.map_ne (by omega)) (by first | (go_simp; done) | assumption); have rk5 := grown_cellA hg5 (b := X) (o := 1) (x := .slice ao k2 co) (HQ.out.map_ne (by omega)) (by first | (go_simp; done) | assumption); have rf0 := grown_freeA hg5 (b := w.heap.size + 1) (o := 0) (HQ.out.map_ne (by omega)) (by first | omega | (simp; done) | (simp; omega)) (by first | (go_simp; done) | assumption); have rf1 := grown_freeA hg5 (b := w.heap.size + 1) (o := 1) (HQ.out.map_ne (by omega)) (by first | omega | (simp; done) | (simp; omega)) (by first | (go_simp; done) | assumption); have rf2 := grown_freeA hg5 (b := X) (o := 0) (HQ.out.map_ne (by omega)) (by first | omega | (simp; done) | (simp; omega)) (by first | (go_simp; done) | assumption); have rf3 := grown_freeA hg5 (b := X) (o := 1) (HQ.out.map_ne (by omega)) (by first | omega | (simp; done) | (simp; omega)) (by first | (go_simp; done) | assumption)))
          all_goals go_wp2_with fail
          all_goals go_roundw
          all_goals first
            | (show _ < _; first | (simp [intOf]; done) | (simp [intOf]; omega))
            | exact ⟨k2 + 1, d5, some ⟨g5, 0, none⟩, by omega, by go_num, (by first | (go_simp; done) | assumption), (by first | (go_simp; done) | assumption), (by first | (go_simp; done) | assumption), (by first | (go_simp; done) | assumption), (by first | (go_simp; done) | assumption), (by first | (go_simp; done) | assumption), (by first | (go_simp; done) | assumption), (by first | (go_simp; done) | assumption), (by first | (go_simp; done) | assumption), (by first | (go_simp; done) | assumption), HT.out.later (by (repeat (first | with_reducible exact Kp.refl _ _ | (with_reducible refine Kp.rng ?_ (by assumption) ?_) | (with_reducible refine Kp.below ?_ (by assumption)) | (with_reducible refine Kp.grown ?_ (by assumption) ?_) | (with_reducible refine Kp.alloc ?_ _) | (with_reducible refine Kp.drew ?_) | (with_reducible refine Kp.drewN ?_ _) | (with_reducible refine Kp.setCell ?_ _ ?_))) <;> (first | omega | (simp; done) | (simp; omega) | (exact HQ.out.map_ne (by omega)))), HG.out.keep fun x hx => (by have hh := HG.out.blk x hx; have hh2 := HAX.out x hx; exact (by (repeat (first | with_reducible exact Kp.refl _ _ | (with_reducible refine Kp.rng ?_ (by assumption) ?_) | (with_reducible refine Kp.below ?_ (by assumption)) | (with_reducible refine Kp.grown ?_ (by assumption) ?_) | (with_reducible refine Kp.alloc ?_ _) | (with_reducible refine Kp.drew ?_) | (with_reducible refine Kp.drewN ?_ _) | (with_reducible refine Kp.setCell ?_ _ ?_))) <;> (first | omega | (simp; done) | (simp; omega) | (exact HQ.out.map_ne (by omega))))), by rw [HS.out]; exact ho5.later (by (repeat (first | with_reducible exact Kp.refl _ _ | (with_reducible refine Kp.rng ?_ (by assumption) ?_) | (with_reducible refine Kp.below ?_ (by assumption)) | (with_reducible refine Kp.grown ?_ (by assumption) ?_) | (with_reducible refine Kp.alloc ?_ _) | (with_reducible refine Kp.drew ?_) | (with_reducible refine Kp.drewN ?_ _) | (with_reducible refine Kp.setCell ?_ _ ?_))) <;> (first | omega | (simp; done) | (simp; omega))), (by (repeat (first | with_reducible exact Below.refl _ _ | (with_reducible refine bel_next ?_ ?_ (by assumption)) | (with_reducible refine Below.alloc ?_ ?_ _) | (with_reducible refine Below.drew ?_) | (with_reducible refine below_drewN ?_ _) | (with_reducible refine Below.setCell ?_ ?_ _))) <;> (first | omega | (simp; done) | (simp; omega))), by simp [World.setCell] <;> omega⟩
        · have HK2 : Hid (outsOf T (os.take k2) = simpO gs os) := by
            show _ = _
            rw [List.take_of_length_le (by omega)]
            unfold simpO
            rw [HK.out]
          have HKG : Hid (simpG gs = G) := by show _ = _; unfold simpG; rw [HK.out]
          have HKL : Hid ((simpO gs os).length = k2) := by show _ = _; unfold simpO; rw [outsOf_len]; omega
          have hlt' : ¬ (k2 : Int) < (os.length : Int) := by omega
          go_wp2_with fail
          refine bodyPost_ret (v := .agg #[.slice ag G.length cg, .slice ao k2 co]) (by simp [results, Try.results41, go_sem, *]) rfl ?_
          refine ⟨ag, cg, ao, co, by rw [HKG.out, HKL.out], ?_, ?_, fun x y hx hy => (by have h1 := HAX.out x hx; have h2 := HQ.out.blk y hy; omega), (by (repeat (first | with_reducible exact Below.refl _ _ | (with_reducible refine bel_next ?_ ?_ (by assumption)) | (with_reducible refine Below.alloc ?_ ?_ _) | (with_reducible refine Below.drew ?_) | (with_reducible refine below_drewN ?_ _) | (with_reducible refine Below.setCell ?_ ?_ _))) <;> (first | omega | (simp; done) | (simp; omega)))⟩
          · rw [HKG.out]; exact (HG.out.lo (by omega)).keep fun x hx => (by have hh := HG.out.blk x hx; have hh2 := HAX.out x hx; exact (by (repeat (first | with_reducible exact Kp.refl _ _ | (with_reducible refine Kp.rng ?_ (by assumption) ?_) | (with_reducible refine Kp.below ?_ (by assumption)) | (with_reducible refine Kp.grown ?_ (by assumption) ?_) | (with_reducible refine Kp.alloc ?_ _) | (with_reducible refine Kp.drew ?_) | (with_reducible refine Kp.drewN ?_ _) | (with_reducible refine Kp.setCell ?_ _ ?_))) <;> (first | omega | (simp; done) | (simp; omega))))
          · rw [HKL.out, ← HK2.out]; exact (HQ.out.lo (by omega)).keep fun x hx => (by have hh := HQ.out.blk x hx; exact (by (repeat (first | with_reducible exact Kp.refl _ _ | (with_reducible refine Kp.rng ?_ (by assumption) ?_) | (with_reducible refine Kp.below ?_ (by assumption)) | (with_reducible refine Kp.grown ?_ (by assumption) ?_) | (with_reducible refine Kp.alloc ?_ _) | (with_reducible refine Kp.drew ?_) | (with_reducible refine Kp.drewN ?_ _) | (with_reducible refine Kp.setCell ?_ _ ?_))) <;> (first | omega | (simp; done) | (simp; omega))))
end Go.Proofs.Ytfpblgbokmpmjaa

/- Less, the program. -/
import Derived.Test.YtfcijloiebnloaaWordS
import Derived.StillTailTactics
import Derived.Deep.RegionHeld3
import Derived.Deep.RegionLaw
namespace Go.Proofs.Ytfcijloiebnloaa
open Go.RowKit
set_option linter.unusedVariables false
set_option linter.unusedSimpArgs false

set_option maxRecDepth 20000 in
set_option maxHeartbeats 8000000 in
theorem iWordLess_any (gs : List Gt) (os : List Int) (a1 a2 : Option Addr) (c1 c2 : Nat) (w : World) (hm : gs.length ≤ 1048576) (hm2 : os.length ≤ 1048576) (hr : RdC w a1 (gtCells gs)) (hr2 : RdC w a2 (I64 os))  (xs : List Int) (nx : Nat) (ax : Option Addr) (cx : Nat) (hlx : xs.length = nx) (hmx : nx ≤ 1048576) (hrx : RdC w ax (I64 xs)) (ys : List Int) (ny : Nat) (ay : Option Addr) (cy : Nat) (hly : ys.length = ny) (hmy : ny ≤ 1048576) (hry : RdC w ay (I64 ys))  :
    Calls Try.prog 30 #[.agg #[.slice a1 gs.length c1, .slice a2 os.length c2], .slice ax nx cx, .slice ay ny cy] w fun e w' => PostI w w' e (wP (askB gs os xs ys) (lessP xs ys gs) gs (-1)).1 os (wP (askB gs os xs ys) (lessP xs ys gs) gs (-1)).2 := by
  have HR := Lib.hid hr
  have HR2 := Lib.hid hr2
  have HRx := Lib.hid hrx
  have HRy := Lib.hid hry
  clear hr hr2 hrx hry
  have nH : w.heap.size ≠ w.heap.size + 1 := by omega
  obtain ⟨PG, hPG⟩ : ∃ z, z = (wP (askB gs os xs ys) (lessP xs ys gs) gs (-1)).1 := ⟨_, rfl⟩
  obtain ⟨PW, hPW⟩ : ∃ z, z = (wP (askB gs os xs ys) (lessP xs ys gs) gs (-1)).2 := ⟨_, rfl⟩
  rw [← hPG, ← hPW]
  have HPG := Lib.hid hPG
  have HPW := Lib.hid hPW
  clear hPG hPW
  go_enter Try.func30, Try.ntmps30
  go_wp2_with fail
  refine (copyCircuit_any gs os _ _ _ _ _ hm hm2 (HR.out.below (by (repeat (first | with_reducible exact Below.refl _ _ | (with_reducible refine bel_next ?_ ?_ (by assumption)) | (with_reducible refine Below.alloc ?_ ?_ _) | (with_reducible refine Below.drew ?_) | (with_reducible refine below_drewN ?_ _) | (with_reducible refine Below.setCell ?_ ?_ _))) <;> (first | omega | (simp; done) | (simp; omega)))) (HR2.out.below (by (repeat (first | with_reducible exact Below.refl _ _ | (with_reducible refine bel_next ?_ ?_ (by assumption)) | (with_reducible refine Below.alloc ?_ ?_ _) | (with_reducible refine Below.drew ?_) | (with_reducible refine below_drewN ?_ _) | (with_reducible refine Below.setCell ?_ ?_ _))) <;> (first | omega | (simp; done) | (simp; omega))))).mono ?_
  rintro e w1 ⟨g1, d1, g2, d2, rfl, ho1, ho2, hne, hb1⟩
  have z1 := hb1.size
  (try simp at z1)
  have y1a : w.heap.size < w1.heap.size := (by omega)
  have y1b : w.heap.size + 1 < w1.heap.size := (by omega)
  have k1_0 := bel_keeps hb1 (b := w.heap.size) (o := 0) (v := .slice a1 gs.length c1) (by first | (go_simp; done) | assumption)
  have k1_1 := bel_keeps hb1 (b := w.heap.size) (o := 1) (v := .slice a2 os.length c2) (by first | (go_simp; done) | assumption)
  have k1_2 := bel_keeps hb1 (b := w.heap.size + 1) (o := 0) (v := .slice none 0 0) (by first | (go_simp; done) | assumption)
  have k1_3 := bel_keeps hb1 (b := w.heap.size + 1) (o := 1) (v := .slice none 0 0) (by first | (go_simp; done) | assumption)
  have f1_0 := bel_free hb1 (b := w.heap.size + 1) (o := 0) (by first | omega | (simp; done) | (simp; omega)) (by first | (go_simp; done) | assumption)
  have f1_1 := bel_free hb1 (b := w.heap.size + 1) (o := 1) (by first | omega | (simp; done) | (simp; omega)) (by first | (go_simp; done) | assumption)
  have hbw1 : Below w.heap.size w w1 := (by (repeat (first | with_reducible exact Below.refl _ _ | (with_reducible refine bel_next ?_ ?_ (by assumption)) | (with_reducible refine Below.alloc ?_ ?_ _) | (with_reducible refine Below.drew ?_) | (with_reducible refine below_drewN ?_ _) | (with_reducible refine Below.setCell ?_ ?_ _))) <;> (first | omega | (simp; done) | (simp; omega)))
  go_wp2_with fail
  obtain ⟨W, hW⟩ : ∃ W, W = w1.alloc (.cells #[.slice (some ⟨g1, 0, none⟩) gs.length d1, .slice (some ⟨g2, 0, none⟩) os.length d2] 72) := ⟨_, rfl⟩
  obtain ⟨bx, hbx⟩ : ∃ b, b = w1.heap.size := ⟨_, rfl⟩
  rw [← hW, ← hbx]
  have hWs : W.heap.size = bx + 1 := by rw [hW, hbx]; simp
  rw [← hWs]
  clear hWs
  have hbW : Below w1.heap.size w1 W := by rw [hW]; exact (Below.refl _ _).alloc (Nat.le_refl _) _
  have HWB := Lib.hid (WB.start (w0 := w) (w := W) (bx := bx) (ho1.lo (by simp)) (ho2.lo (by simp)) hne (hbw1.trans (hbW.mono (by omega))) hbW hbx (by rw [hW]; simp) (by rw [hW, hbx]; go_simp) (by rw [hW, hbx]; go_simp) (by rw [hW, hbx]; go_simp) (by rw [hW, hbx]; go_simp))
  have hbb : w.heap.size + 2 ≤ bx := by omega
  have zW := hbW.size
  (try simp at zW)
  have yWa : w.heap.size < W.heap.size := (by omega)
  have yWb : w.heap.size + 1 < W.heap.size := (by omega)
  have kW_0 := bel_keeps hbW (b := w.heap.size) (o := 0) (v := .slice a1 gs.length c1) (by first | (go_simp; done) | assumption)
  have kW_1 := bel_keeps hbW (b := w.heap.size) (o := 1) (v := .slice a2 os.length c2) (by first | (go_simp; done) | assumption)
  have kW_2 := bel_keeps hbW (b := w.heap.size + 1) (o := 0) (v := .slice none 0 0) (by first | (go_simp; done) | assumption)
  have kW_3 := bel_keeps hbW (b := w.heap.size + 1) (o := 1) (v := .slice none 0 0) (by first | (go_simp; done) | assumption)
  have fW_0 := bel_free hbW (b := w.heap.size + 1) (o := 0) (by first | omega | (simp; done) | (simp; omega)) (by first | (go_simp; done) | assumption)
  have fW_1 := bel_free hbW (b := w.heap.size + 1) (o := 1) (by first | omega | (simp; done) | (simp; omega)) (by first | (go_simp; done) | assumption)
  clear k1_0 k1_1 k1_2 k1_3 f1_0 f1_1
  clear hW hbx hbW ho1 ho2 hne hb1 hbw1
  have hlW := HWB.out.l
  refine (isWordOf2_any gs os _ _ _ _ _ hm hm2 (HR.out.below (hlW.trans (((Below.refl _ _).alloc (Nat.le_refl _) _).mono (by omega)))) (HR2.out.below (hlW.trans (((Below.refl _ _).alloc (Nat.le_refl _) _).mono (by omega)))) xs nx ax cx hlx hmx (HRx.out.below (hlW.trans (((Below.refl _ _).alloc (Nat.le_refl _) _).mono (by omega)))) ys ny ay cy hly hmy (HRy.out.below (hlW.trans (((Below.refl _ _).alloc (Nat.le_refl _) _).mono (by omega)))) W.heap.size 2 (by go_simp) (by go_simp)).mono ?_
  rintro e w9 ⟨rfl, hb0⟩
  have hb9 : Below W.heap.size W w9 := ((Below.refl _ _).alloc (Nat.le_refl _) _).trans (hb0.mono (by simp))
  clear hb0
  have HWB9 := Lib.hid (HWB.out.below hb9)
  have z9 := hb9.size
  (try simp at z9)
  have y9a : w.heap.size < w9.heap.size := (by omega)
  have y9b : w.heap.size + 1 < w9.heap.size := (by omega)
  have k9_0 := bel_keeps hb9 (b := w.heap.size) (o := 0) (v := .slice a1 gs.length c1) (by first | (go_simp; done) | assumption)
  have k9_1 := bel_keeps hb9 (b := w.heap.size) (o := 1) (v := .slice a2 os.length c2) (by first | (go_simp; done) | assumption)
  have k9_2 := bel_keeps hb9 (b := w.heap.size + 1) (o := 0) (v := .slice none 0 0) (by first | (go_simp; done) | assumption)
  have k9_3 := bel_keeps hb9 (b := w.heap.size + 1) (o := 1) (v := .slice none 0 0) (by first | (go_simp; done) | assumption)
  have f9_0 := bel_free hb9 (b := w.heap.size + 1) (o := 0) (by first | omega | (simp; done) | (simp; omega)) (by first | (go_simp; done) | assumption)
  have f9_1 := bel_free hb9 (b := w.heap.size + 1) (o := 1) (by first | omega | (simp; done) | (simp; omega)) (by first | (go_simp; done) | assumption)
  clear kW_0 kW_1 kW_2 kW_3 fW_0 fW_1
  clear hb9
  cases hq : askB gs os xs ys
  · have e1 : PG = gs := by rw [HPG.out, show (askB gs os xs ys) = false from hq]; rfl
    have e2 : PW = (-1) := by rw [HPW.out, show (askB gs os xs ys) = false from hq]; rfl
    have HE1 := Lib.hid e1
    have HE2 := Lib.hid e2
    clear e1 e2
    obtain ⟨adR, capR, hcR, _, _⟩ := HWB9.out.b.row
    have hc1R := HWB9.out.b.snd
    have hlR := HWB9.out.l
    go_wp2_with fail
    refine bodyPost_ret (v := .tuple #[.agg #[.slice adR gs.length capR, .slice (some ⟨g2, 0, none⟩) os.length d2], .int .i64 (-1)]) (by simp [results, Try.results30, go_sem, *]) rfl ?_
    rw [HE1.out, HE2.out]
    exact HWB9.out.postI hcR (fun b hb => (by (repeat (first | with_reducible exact Kp.refl _ _ | (with_reducible refine Kp.rng ?_ (by assumption) ?_) | (with_reducible refine Kp.below ?_ (by assumption)) | (with_reducible refine Kp.grown ?_ (by assumption) ?_) | (with_reducible refine Kp.alloc ?_ _) | (with_reducible refine Kp.drew ?_) | (with_reducible refine Kp.drewN ?_ _) | (with_reducible refine Kp.setCell ?_ _ ?_))) <;> (first | omega | (simp; done) | (simp; omega)))) (by (repeat (first | with_reducible exact Below.refl _ _ | (with_reducible refine bel_next ?_ ?_ (by assumption)) | (with_reducible refine Below.alloc ?_ ?_ _) | (with_reducible refine Below.drew ?_) | (with_reducible refine below_drewN ?_ _) | (with_reducible refine Below.setCell ?_ ?_ _))) <;> (first | omega | (simp; done) | (simp; omega)))
  · have e1 : PG = (lessP xs ys gs).1 := by rw [HPG.out, show (askB gs os xs ys) = true from hq]; rfl
    have e2 : PW = (lessP xs ys gs).2 := by rw [HPW.out, show (askB gs os xs ys) = true from hq]; rfl
    have HE1 := Lib.hid e1
    have HE2 := Lib.hid e2
    clear e1 e2
    obtain ⟨hx4, hy4, h59⟩ := askB_len hq
    rw [hlx] at hx4
    rw [hly] at hy4
    subst hx4; subst hy4
    have HB := Lib.hid HWB9.out.b
    have hBl := HWB9.out.b.le
    have HN2 := Lib.hid HWB9.out.f
    have HFx := Lib.hid (HWB9.out.fra HRx.out (by omega))
    have hrox := HRx.out.below HWB9.out.l
    clear HRx
    have HRx := Lib.hid hrox
    have HLx := Lib.hid hlx
    clear hrox hlx
    have HFy := Lib.hid (HWB9.out.fra HRy.out (by omega))
    have hroy := HRy.out.below HWB9.out.l
    clear HRy
    have HRy := Lib.hid hroy
    have HLy := Lib.hid hly
    clear hroy hly
    go_wp2_with fail
    refine (nots_any gs (.slice (some ⟨g2, 0, none⟩) os.length d2) (w.heap.size + 2) bx _ HB.out (by omega) ys ay cy HLy.out HRy.out HFy.out).mono ?_
    rintro e wn ⟨gx, cnx, rfl, hnb⟩
    have hnl := notsP_len ys gs
    obtain ⟨gn, NX, hnp⟩ : ∃ a b, notsP ys gs = (a, b) := ⟨_, _, rfl⟩
    rw [hnp] at hnb hnl
    have hnl2 : NX.length = 4 := hnl.2
    have hgn : gn.length ≤ 900010 := by have := hnl.1; simp only at this; omega
    have HNP := Lib.hid hnp
    have HNB := Lib.hid hnb
    have HNL := Lib.hid hnl2
    clear hnp hnb hnl hnl2
    go_wp2_with fail
    refine (bgate_any gn 2 1 0 (.slice (some ⟨g2, 0, none⟩) os.length d2) (w.heap.size + 2) bx _ HNB.out.b (by omega)).mono ?_
    rintro e w1 ⟨rfl, hB1, hF1, hL1⟩
    have HS1 := Lib.hid (HNB.out.on hB1 hF1 hL1)
    obtain ⟨G0, hG0⟩ : ∃ G, G = gn ++ [⟨2, 1, 0⟩] := ⟨_, rfl⟩
    rw [← hG0] at HS1
    have HG0 := Lib.hid hG0
    have lG0 : G0.length ≤ 900011 := by rw [hG0]; simp; omega
    clear hB1 hF1 hL1 hG0
    go_wp2_with fail
    go_loopw [10, 34] (fun c i wr => ∃ (k : Nat) (G : List Gt) (T : List Int) (cw : Int), k ≤ 4 ∧ i = .int .i64 (k : Int) ∧ c = .int .i64 cw ∧ fullsP xs NX gn.length G0 k = (G, cw, T) ∧ Bs w9 wr (w.heap.size + 2) bx G (.slice (some ⟨g2, 0, none⟩) os.length d2) gx 4 cnx NX) (fun _ i _ => (4 - intOf i).toNat)
    case atStart => exact ⟨0, _, _, _, by omega, rfl, rfl, rfl, HS1.out⟩
    case round =>
      obtain ⟨k, G, T, cw, hk, rfl, rfl, hsp, hbs⟩ := hrel
      have hGl := fullsP_le xs NX gn.length G0 k
      rw [hsp] at hGl
      simp only at hGl
      have hGl2 : G.length ≤ 900040 := by omega
      have HSP := Lib.hid hsp
      have HBS := Lib.hid hbs
      clear hsp hbs hGl
      by_cases hlt : k < 4
      · have hk' : (k : Int) < 4 := by omega
        have HST := Lib.hid (fullsP_succ xs NX gn.length G0 k HSP.out)
        obtain ⟨blx, offx, rfl, hbx, hcx⟩ := HRx.out.elem k (by rw [HLx.out]; exact hlt)
        obtain ⟨vx, hvx⟩ : ∃ z, z = at0 xs (k : Int) := ⟨_, rfl⟩
        rw [← hvx] at hcx
        have HVx := Lib.hid hvx
        have HCx := Lib.hid hcx
        have hcx0 := HBS.out.cell (HFx.out _ _ rfl) HCx.out
        obtain ⟨hn0, hn1⟩ := HBS.out.o.intE k (by rw [HNL.out]; exact hlt)
        obtain ⟨vn, hvn⟩ : ∃ z, z = at0 NX (k : Int) := ⟨_, rfl⟩
        rw [← hvn] at hn0
        have HVn := Lib.hid hvn
        clear hvx hcx hvn hn1
        go_wp2_with fail
        go_region_held3 (fun w' => w'.cell? ⟨blx, offx + k, none⟩ = some (.int .i64 vx) ∧ w'.cell? ⟨gx, k, none⟩ = some (.int .i64 vn)) (first | go_keep) ((go_at_call 71; refine (adder_any G vx vn cw (.slice (some ⟨g2, 0, none⟩) os.length d2) (w.heap.size + 2) bx _ (HBS.out.drew).b (by omega)).mono ?_; rintro e w2 ⟨rfl, hB2, hF2, hL2⟩; have S1 := Lib.hid ((HBS.out.drew).on hB2 hF2 hL2); have hcx1 := S1.out.cell (HFx.out _ _ rfl) HCx.out; have hcn1 := (S1.out.o.intE k (by rw [HNL.out]; exact hlt)).1; rw [← HVn.out] at hcn1; clear hB2 hF2 hL2))
        have HN : Hid (fullsP xs NX gn.length G0 (k + 1) = (fullG G vx vn cw, (G.length : Int) + 4, T ++ [(G.length : Int) + 2])) := by show _ = _; rw [HST.out, HVx.out, HVn.out]
        go_wp2_with fail
        go_roundw
        case rel => exact ⟨k + 1, _, _, _, by omega, by go_num, rfl, HN.out, S1.out⟩
        case measure => first | (simp [intOf]; done) | (simp [intOf]; omega)
      · obtain rfl : k = 4 := by omega
        go_wp2_with fail
        refine (bgate_any G 5 cw 0 (.slice (some ⟨g2, 0, none⟩) os.length d2) (w.heap.size + 2) bx _ HBS.out.b (by omega)).mono ?_
        rintro e w3 ⟨rfl, hB3, hF3, hL3⟩
        have S3 := Lib.hid (HBS.out.on hB3 hF3 hL3)
        clear hB3 hF3 hL3
        have HP : Hid (lessP xs ys gs = (G ++ [⟨5, cw, 0⟩], (G.length : Int))) := by
          show _ = _
          unfold lessP
          rw [HNP.out]
          simp only
          rw [← HG0.out, HSP.out]
        have HWB10 := Lib.hid (HWB9.out.on S3.out.b S3.out.r S3.out.l)
        have k10_0 := Fr.cell S3.out.r (HWB9.out.b.frn_lo (by omega)) k9_0
        have k10_1 := Fr.cell S3.out.r (HWB9.out.b.frn_lo (by omega)) k9_1
        have k10_2 := Fr.cell S3.out.r (HWB9.out.b.frn_lo (by omega)) k9_2
        have k10_3 := Fr.cell S3.out.r (HWB9.out.b.frn_lo (by omega)) k9_3
        have f10_0 := Fr.free S3.out.r (HWB9.out.b.frn_lo (by omega)) f9_0
        have f10_1 := Fr.free S3.out.r (HWB9.out.b.frn_lo (by omega)) f9_1
        clear k9_0 k9_1 k9_2 k9_3 f9_0 f9_1
        clear HWB9
        obtain ⟨adR, capR, hcR, _, _⟩ := HWB10.out.b.row
        have hc1R := HWB10.out.b.snd
        have hlR := HWB10.out.l
        go_wp2_with fail
        refine bodyPost_ret (v := .tuple #[.agg #[.slice adR (G ++ [(⟨5, cw, 0⟩ : Gt)]).length capR, .slice (some ⟨g2, 0, none⟩) os.length d2], .int .i64 (G.length : Int)]) (by simp [results, Try.results30, go_sem, *]) rfl ?_
        rw [HE1.out, HE2.out]
        rw [HP.out]
        exact HWB10.out.postI hcR (fun b hb => (by (repeat (first | with_reducible exact Kp.refl _ _ | (with_reducible refine Kp.rng ?_ (by assumption) ?_) | (with_reducible refine Kp.below ?_ (by assumption)) | (with_reducible refine Kp.grown ?_ (by assumption) ?_) | (with_reducible refine Kp.alloc ?_ _) | (with_reducible refine Kp.drew ?_) | (with_reducible refine Kp.drewN ?_ _) | (with_reducible refine Kp.setCell ?_ _ ?_))) <;> (first | omega | (simp; done) | (simp; omega)))) (by (repeat (first | with_reducible exact Below.refl _ _ | (with_reducible refine bel_next ?_ ?_ (by assumption)) | (with_reducible refine Below.alloc ?_ ?_ _) | (with_reducible refine Below.drew ?_) | (with_reducible refine below_drewN ?_ _) | (with_reducible refine Below.setCell ?_ ?_ _))) <;> (first | omega | (simp; done) | (simp; omega)))
end Go.Proofs.Ytfcijloiebnloaa

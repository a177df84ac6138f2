/- WordL, WordC, WordM, WordE, WordMI, CmpC, CmpX, CmpJ, in one text. -/
import Derived.Test.YtfcijloiebnloaaWordS0
import Derived.StillTailTactics
import Derived.Deep.RegionHeld3
import Derived.Deep.RegionLaw
import Derived.Test.YtfcijloiebnloaaCmpAllF
import Derived.Test.YtfcijloiebnloaaMulF0
import Derived.Test.YtfcijloiebnloaaCmpAllA
import Derived.Deep.CutRange
/- WordL -/
namespace Go.Proofs.Ytfcijloiebnloaa
open Go.RowKit
set_option linter.unusedVariables false
set_option linter.unusedSimpArgs false

set_option maxRecDepth 20000 in
set_option maxHeartbeats 8000000 in
theorem iWordLess_any (gs : List Gt) (os : List Int) (a1 a2 : Option Addr) (c1 c2 : Nat) (w : World) (hm : gs.length ≤ 1048576) (hm2 : os.length ≤ 1048576) (hr : RdC w a1 (gtCells gs)) (hr2 : RdC w a2 (I64 os))  (xs : List Int) (nx : Nat) (ax : Option Addr) (cx : Nat) (hlx : xs.length = nx) (hmx : nx ≤ 1048576) (hrx : RdC w ax (I64 xs)) (ys : List Int) (ny : Nat) (ay : Option Addr) (cy : Nat) (hly : ys.length = ny) (hmy : ny ≤ 1048576) (hry : RdC w ay (I64 ys))  :
    Calls Try.prog 30 #[.agg #[.slice a1 gs.length c1, .slice a2 os.length c2], .slice ax nx cx, .slice ay ny cy] w fun e w' => PostI w w' e (wP (askB gs os xs ys) (lessP xs ys gs) gs (-1)).1 os (wP (askB gs os xs ys) (lessP xs ys gs) gs (-1)).2 := by
  have HR := Lib.hid hr
  have HR2 := Lib.hid hr2
  have HRx := Lib.hid hrx
  have HRy := Lib.hid hry
  clear hr hr2 hrx hry
  have nH : w.heap.size ≠ w.heap.size + 1 := by omega
  obtain ⟨PG, hPG⟩ : ∃ z, z = (wP (askB gs os xs ys) (lessP xs ys gs) gs (-1)).1 := ⟨_, rfl⟩
  obtain ⟨PW, hPW⟩ : ∃ z, z = (wP (askB gs os xs ys) (lessP xs ys gs) gs (-1)).2 := ⟨_, rfl⟩
  rw [← hPG, ← hPW]
  have HPG := Lib.hid hPG
  have HPW := Lib.hid hPW
  clear hPG hPW
  go_enter Try.func30, Try.ntmps30
  go_wp2_with fail
  refine (copyCircuit_any gs os _ _ _ _ _ hm hm2 (HR.out.below (by (repeat (first | with_reducible exact Below.refl _ _ | (with_reducible refine bel_next ?_ ?_ (by assumption)) | (with_reducible refine Below.alloc ?_ ?_ _) | (with_reducible refine Below.drew ?_) | (with_reducible refine below_drewN ?_ _) | (with_reducible refine Below.setCell ?_ ?_ _))) <;> (first | omega | (simp; done) | (simp; omega)))) (HR2.out.below (by (repeat (first | with_reducible exact Below.refl _ _ | (with_reducible refine bel_next ?_ ?_ (by assumption)) | (with_reducible refine Below.alloc ?_ ?_ _) | (with_reducible refine Below.drew ?_) | (with_reducible refine below_drewN ?_ _) | (with_reducible refine Below.setCell ?_ ?_ _))) <;> (first | omega | (simp; done) | (simp; omega))))).mono ?_
  rintro e w1 ⟨g1, d1, g2, d2, rfl, ho1, ho2, hne, hb1⟩
  have z1 := hb1.size
  (try simp at z1)
  have y1a : w.heap.size < w1.heap.size := (by omega)
  have y1b : w.heap.size + 1 < w1.heap.size := (by omega)
  have k1_0 := bel_keeps hb1 (b := w.heap.size) (o := 0) (v := .slice a1 gs.length c1) (by first | (go_simp; done) | assumption)
  have k1_1 := bel_keeps hb1 (b := w.heap.size) (o := 1) (v := .slice a2 os.length c2) (by first | (go_simp; done) | assumption)
  have k1_2 := bel_keeps hb1 (b := w.heap.size + 1) (o := 0) (v := .slice none 0 0) (by first | (go_simp; done) | assumption)
  have k1_3 := bel_keeps hb1 (b := w.heap.size + 1) (o := 1) (v := .slice none 0 0) (by first | (go_simp; done) | assumption)
  have f1_0 := bel_free hb1 (b := w.heap.size + 1) (o := 0) (by first | omega | (simp; done) | (simp; omega)) (by first | (go_simp; done) | assumption)
  have f1_1 := bel_free hb1 (b := w.heap.size + 1) (o := 1) (by first | omega | (simp; done) | (simp; omega)) (by first | (go_simp; done) | assumption)
  have hbw1 : Below w.heap.size w w1 := (by (repeat (first | with_reducible exact Below.refl _ _ | (with_reducible refine bel_next ?_ ?_ (by assumption)) | (with_reducible refine Below.alloc ?_ ?_ _) | (with_reducible refine Below.drew ?_) | (with_reducible refine below_drewN ?_ _) | (with_reducible refine Below.setCell ?_ ?_ _))) <;> (first | omega | (simp; done) | (simp; omega)))
  go_wp2_with fail
  obtain ⟨W, hW⟩ : ∃ W, W = w1.alloc (.cells #[.slice (some ⟨g1, 0, none⟩) gs.length d1, .slice (some ⟨g2, 0, none⟩) os.length d2] 72) := ⟨_, rfl⟩
  obtain ⟨bx, hbx⟩ : ∃ b, b = w1.heap.size := ⟨_, rfl⟩
  rw [← hW, ← hbx]
  have hWs : W.heap.size = bx + 1 := by rw [hW, hbx]; simp
  rw [← hWs]
  clear hWs
  have hbW : Below w1.heap.size w1 W := by rw [hW]; exact (Below.refl _ _).alloc (Nat.le_refl _) _
  have HWB := Lib.hid (WB.start (w0 := w) (w := W) (bx := bx) (ho1.lo (by simp)) (ho2.lo (by simp)) hne (hbw1.trans (hbW.mono (by omega))) hbW hbx (by rw [hW]; simp) (by rw [hW, hbx]; go_simp) (by rw [hW, hbx]; go_simp) (by rw [hW, hbx]; go_simp) (by rw [hW, hbx]; go_simp))
  have hbb : w.heap.size + 2 ≤ bx := by omega
  have zW := hbW.size
  (try simp at zW)
  have yWa : w.heap.size < W.heap.size := (by omega)
  have yWb : w.heap.size + 1 < W.heap.size := (by omega)
  have kW_0 := bel_keeps hbW (b := w.heap.size) (o := 0) (v := .slice a1 gs.length c1) (by first | (go_simp; done) | assumption)
  have kW_1 := bel_keeps hbW (b := w.heap.size) (o := 1) (v := .slice a2 os.length c2) (by first | (go_simp; done) | assumption)
  have kW_2 := bel_keeps hbW (b := w.heap.size + 1) (o := 0) (v := .slice none 0 0) (by first | (go_simp; done) | assumption)
  have kW_3 := bel_keeps hbW (b := w.heap.size + 1) (o := 1) (v := .slice none 0 0) (by first | (go_simp; done) | assumption)
  have fW_0 := bel_free hbW (b := w.heap.size + 1) (o := 0) (by first | omega | (simp; done) | (simp; omega)) (by first | (go_simp; done) | assumption)
  have fW_1 := bel_free hbW (b := w.heap.size + 1) (o := 1) (by first | omega | (simp; done) | (simp; omega)) (by first | (go_simp; done) | assumption)
  clear k1_0 k1_1 k1_2 k1_3 f1_0 f1_1
  clear hW hbx hbW ho1 ho2 hne hb1 hbw1
  have hlW := HWB.out.l
  refine (isWordOf2_any gs os _ _ _ _ _ hm hm2 (HR.out.below (hlW.trans (((Below.refl _ _).alloc (Nat.le_refl _) _).mono (by omega)))) (HR2.out.below (hlW.trans (((Below.refl _ _).alloc (Nat.le_refl _) _).mono (by omega)))) xs nx ax cx hlx hmx (HRx.out.below (hlW.trans (((Below.refl _ _).alloc (Nat.le_refl _) _).mono (by omega)))) ys ny ay cy hly hmy (HRy.out.below (hlW.trans (((Below.refl _ _).alloc (Nat.le_refl _) _).mono (by omega)))) W.heap.size 2 (by go_simp) (by go_simp)).mono ?_
  rintro e w9 ⟨rfl, hb0⟩
  have hb9 : Below W.heap.size W w9 := ((Below.refl _ _).alloc (Nat.le_refl _) _).trans (hb0.mono (by simp))
  clear hb0
  have HWB9 := Lib.hid (HWB.out.below hb9)
  have z9 := hb9.size
  (try simp at z9)
  have y9a : w.heap.size < w9.heap.size := (by omega)
  have y9b : w.heap.size + 1 < w9.heap.size := (by omega)
  have k9_0 := bel_keeps hb9 (b := w.heap.size) (o := 0) (v := .slice a1 gs.length c1) (by first | (go_simp; done) | assumption)
  have k9_1 := bel_keeps hb9 (b := w.heap.size) (o := 1) (v := .slice a2 os.length c2) (by first | (go_simp; done) | assumption)
  have k9_2 := bel_keeps hb9 (b := w.heap.size + 1) (o := 0) (v := .slice none 0 0) (by first | (go_simp; done) | assumption)
  have k9_3 := bel_keeps hb9 (b := w.heap.size + 1) (o := 1) (v := .slice none 0 0) (by first | (go_simp; done) | assumption)
  have f9_0 := bel_free hb9 (b := w.heap.size + 1) (o := 0) (by first | omega | (simp; done) | (simp; omega)) (by first | (go_simp; done) | assumption)
  have f9_1 := bel_free hb9 (b := w.heap.size + 1) (o := 1) (by first | omega | (simp; done) | (simp; omega)) (by first | (go_simp; done) | assumption)
  clear kW_0 kW_1 kW_2 kW_3 fW_0 fW_1
  clear hb9
  cases hq : askB gs os xs ys
  · have e1 : PG = gs := by rw [HPG.out, show (askB gs os xs ys) = false from hq]; rfl
    have e2 : PW = (-1) := by rw [HPW.out, show (askB gs os xs ys) = false from hq]; rfl
    have HE1 := Lib.hid e1
    have HE2 := Lib.hid e2
    clear e1 e2
    obtain ⟨adR, capR, hcR, _, _⟩ := HWB9.out.b.row
    have hc1R := HWB9.out.b.snd
    have hlR := HWB9.out.l
    go_wp2_with fail
    refine bodyPost_ret (v := .tuple #[.agg #[.slice adR gs.length capR, .slice (some ⟨g2, 0, none⟩) os.length d2], .int .i64 (-1)]) (by simp [results, Try.results30, go_sem, *]) rfl ?_
    rw [HE1.out, HE2.out]
    exact HWB9.out.postI hcR (fun b hb => (by (repeat (first | with_reducible exact Kp.refl _ _ | (with_reducible refine Kp.rng ?_ (by assumption) ?_) | (with_reducible refine Kp.below ?_ (by assumption)) | (with_reducible refine Kp.grown ?_ (by assumption) ?_) | (with_reducible refine Kp.alloc ?_ _) | (with_reducible refine Kp.drew ?_) | (with_reducible refine Kp.drewN ?_ _) | (with_reducible refine Kp.setCell ?_ _ ?_))) <;> (first | omega | (simp; done) | (simp; omega)))) (by (repeat (first | with_reducible exact Below.refl _ _ | (with_reducible refine bel_next ?_ ?_ (by assumption)) | (with_reducible refine Below.alloc ?_ ?_ _) | (with_reducible refine Below.drew ?_) | (with_reducible refine below_drewN ?_ _) | (with_reducible refine Below.setCell ?_ ?_ _))) <;> (first | omega | (simp; done) | (simp; omega)))
  · have e1 : PG = (lessP xs ys gs).1 := by rw [HPG.out, show (askB gs os xs ys) = true from hq]; rfl
    have e2 : PW = (lessP xs ys gs).2 := by rw [HPW.out, show (askB gs os xs ys) = true from hq]; rfl
    have HE1 := Lib.hid e1
    have HE2 := Lib.hid e2
    clear e1 e2
    obtain ⟨hx4, hy4, h59⟩ := askB_len hq
    rw [hlx] at hx4
    rw [hly] at hy4
    subst hx4; subst hy4
    have HB := Lib.hid HWB9.out.b
    have hBl := HWB9.out.b.le
    have HN2 := Lib.hid HWB9.out.f
    have HFx := Lib.hid (HWB9.out.fra HRx.out (by omega))
    have hrox := HRx.out.below HWB9.out.l
    clear HRx
    have HRx := Lib.hid hrox
    have HLx := Lib.hid hlx
    clear hrox hlx
    have HFy := Lib.hid (HWB9.out.fra HRy.out (by omega))
    have hroy := HRy.out.below HWB9.out.l
    clear HRy
    have HRy := Lib.hid hroy
    have HLy := Lib.hid hly
    clear hroy hly
    go_wp2_with fail
    refine (nots_any gs (.slice (some ⟨g2, 0, none⟩) os.length d2) (w.heap.size + 2) bx _ HB.out (by omega) ys ay cy HLy.out HRy.out HFy.out).mono ?_
    rintro e wn ⟨gx, cnx, rfl, hnb⟩
    have hnl := notsP_len ys gs
    obtain ⟨gn, NX, hnp⟩ : ∃ a b, notsP ys gs = (a, b) := ⟨_, _, rfl⟩
    rw [hnp] at hnb hnl
    have hnl2 : NX.length = 4 := hnl.2
    have hgn : gn.length ≤ 900010 := by have := hnl.1; simp only at this; omega
    have HNP := Lib.hid hnp
    have HNB := Lib.hid hnb
    have HNL := Lib.hid hnl2
    clear hnp hnb hnl hnl2
    go_wp2_with fail
    refine (bgate_any gn 2 1 0 (.slice (some ⟨g2, 0, none⟩) os.length d2) (w.heap.size + 2) bx _ HNB.out.b (by omega)).mono ?_
    rintro e w1 ⟨rfl, hB1, hF1, hL1⟩
    have HS1 := Lib.hid (HNB.out.on hB1 hF1 hL1)
    obtain ⟨G0, hG0⟩ : ∃ G, G = gn ++ [⟨2, 1, 0⟩] := ⟨_, rfl⟩
    rw [← hG0] at HS1
    have HG0 := Lib.hid hG0
    have lG0 : G0.length ≤ 900011 := by rw [hG0]; simp; omega
    clear hB1 hF1 hL1 hG0
    go_wp2_with fail
    go_loopw [10, 34] (fun c i wr => ∃ (k : Nat) (G : List Gt) (T : List Int) (cw : Int), k ≤ 4 ∧ i = .int .i64 (k : Int) ∧ c = .int .i64 cw ∧ fullsP xs NX gn.length G0 k = (G, cw, T) ∧ Bs w9 wr (w.heap.size + 2) bx G (.slice (some ⟨g2, 0, none⟩) os.length d2) gx 4 cnx NX) (fun _ i _ => (4 - intOf i).toNat)
    case atStart => exact ⟨0, _, _, _, by omega, rfl, rfl, rfl, HS1.out⟩
    case round =>
      obtain ⟨k, G, T, cw, hk, rfl, rfl, hsp, hbs⟩ := hrel
      have hGl := fullsP_le xs NX gn.length G0 k
      rw [hsp] at hGl
      simp only at hGl
      have hGl2 : G.length ≤ 900040 := by omega
      have HSP := Lib.hid hsp
      have HBS := Lib.hid hbs
      clear hsp hbs hGl
      by_cases hlt : k < 4
      · have hk' : (k : Int) < 4 := by omega
        have HST := Lib.hid (fullsP_succ xs NX gn.length G0 k HSP.out)
        obtain ⟨blx, offx, rfl, hbx, hcx⟩ := HRx.out.elem k (by rw [HLx.out]; exact hlt)
        obtain ⟨vx, hvx⟩ : ∃ z, z = at0 xs (k : Int) := ⟨_, rfl⟩
        rw [← hvx] at hcx
        have HVx := Lib.hid hvx
        have HCx := Lib.hid hcx
        have hcx0 := HBS.out.cell (HFx.out _ _ rfl) HCx.out
        obtain ⟨hn0, hn1⟩ := HBS.out.o.intE k (by rw [HNL.out]; exact hlt)
        obtain ⟨vn, hvn⟩ : ∃ z, z = at0 NX (k : Int) := ⟨_, rfl⟩
        rw [← hvn] at hn0
        have HVn := Lib.hid hvn
        clear hvx hcx hvn hn1
        go_wp2_with fail
        go_region_held3 (fun w' => w'.cell? ⟨blx, offx + k, none⟩ = some (.int .i64 vx) ∧ w'.cell? ⟨gx, k, none⟩ = some (.int .i64 vn)) (first | go_keep) ((go_at_call 71; refine (adder_any G vx vn cw (.slice (some ⟨g2, 0, none⟩) os.length d2) (w.heap.size + 2) bx _ (HBS.out.drew).b (by omega)).mono ?_; rintro e w2 ⟨rfl, hB2, hF2, hL2⟩; have S1 := Lib.hid ((HBS.out.drew).on hB2 hF2 hL2); have hcx1 := S1.out.cell (HFx.out _ _ rfl) HCx.out; have hcn1 := (S1.out.o.intE k (by rw [HNL.out]; exact hlt)).1; rw [← HVn.out] at hcn1; clear hB2 hF2 hL2))
        have HN : Hid (fullsP xs NX gn.length G0 (k + 1) = (fullG G vx vn cw, (G.length : Int) + 4, T ++ [(G.length : Int) + 2])) := by show _ = _; rw [HST.out, HVx.out, HVn.out]
        go_wp2_with fail
        go_roundw
        case rel => exact ⟨k + 1, _, _, _, by omega, by go_num, rfl, HN.out, S1.out⟩
        case measure => first | (simp [intOf]; done) | (simp [intOf]; omega)
      · obtain rfl : k = 4 := by omega
        go_wp2_with fail
        refine (bgate_any G 5 cw 0 (.slice (some ⟨g2, 0, none⟩) os.length d2) (w.heap.size + 2) bx _ HBS.out.b (by omega)).mono ?_
        rintro e w3 ⟨rfl, hB3, hF3, hL3⟩
        have S3 := Lib.hid (HBS.out.on hB3 hF3 hL3)
        clear hB3 hF3 hL3
        have HP : Hid (lessP xs ys gs = (G ++ [⟨5, cw, 0⟩], (G.length : Int))) := by
          show _ = _
          unfold lessP
          rw [HNP.out]
          simp only
          rw [← HG0.out, HSP.out]
        have HWB10 := Lib.hid (HWB9.out.on S3.out.b S3.out.r S3.out.l)
        have k10_0 := Fr.cell S3.out.r (HWB9.out.b.frn_lo (by omega)) k9_0
        have k10_1 := Fr.cell S3.out.r (HWB9.out.b.frn_lo (by omega)) k9_1
        have k10_2 := Fr.cell S3.out.r (HWB9.out.b.frn_lo (by omega)) k9_2
        have k10_3 := Fr.cell S3.out.r (HWB9.out.b.frn_lo (by omega)) k9_3
        have f10_0 := Fr.free S3.out.r (HWB9.out.b.frn_lo (by omega)) f9_0
        have f10_1 := Fr.free S3.out.r (HWB9.out.b.frn_lo (by omega)) f9_1
        clear k9_0 k9_1 k9_2 k9_3 f9_0 f9_1
        clear HWB9
        obtain ⟨adR, capR, hcR, _, _⟩ := HWB10.out.b.row
        have hc1R := HWB10.out.b.snd
        have hlR := HWB10.out.l
        go_wp2_with fail
        refine bodyPost_ret (v := .tuple #[.agg #[.slice adR (G ++ [(⟨5, cw, 0⟩ : Gt)]).length capR, .slice (some ⟨g2, 0, none⟩) os.length d2], .int .i64 (G.length : Int)]) (by simp [results, Try.results30, go_sem, *]) rfl ?_
        rw [HE1.out, HE2.out]
        rw [HP.out]
        exact HWB10.out.postI hcR (fun b hb => (by (repeat (first | with_reducible exact Kp.refl _ _ | (with_reducible refine Kp.rng ?_ (by assumption) ?_) | (with_reducible refine Kp.below ?_ (by assumption)) | (with_reducible refine Kp.grown ?_ (by assumption) ?_) | (with_reducible refine Kp.alloc ?_ _) | (with_reducible refine Kp.drew ?_) | (with_reducible refine Kp.drewN ?_ _) | (with_reducible refine Kp.setCell ?_ _ ?_))) <;> (first | omega | (simp; done) | (simp; omega)))) (by (repeat (first | with_reducible exact Below.refl _ _ | (with_reducible refine bel_next ?_ ?_ (by assumption)) | (with_reducible refine Below.alloc ?_ ?_ _) | (with_reducible refine Below.drew ?_) | (with_reducible refine below_drewN ?_ _) | (with_reducible refine Below.setCell ?_ ?_ _))) <;> (first | omega | (simp; done) | (simp; omega)))
end Go.Proofs.Ytfcijloiebnloaa

/- WordC -/
namespace Go.Proofs.Ytfcijloiebnloaa
open Go.RowKit
set_option linter.unusedVariables false
set_option linter.unusedSimpArgs false

theorem roomB_room0 {gs : List Gt} {os : List Int} (h : roomB gs os = true) : gs.length ≤ 5900 := by
  simp [roomB] at h; omega

set_option maxRecDepth 20000 in
set_option maxHeartbeats 8000000 in
theorem iWordConst_any (gs : List Gt) (os : List Int) (a1 a2 : Option Addr) (c1 c2 : Nat) (w : World) (hm : gs.length ≤ 1048576) (hm2 : os.length ≤ 1048576) (hr : RdC w a1 (gtCells gs)) (hr2 : RdC w a2 (I64 os)) (n0 : Int)   :
    Calls Try.prog 15 #[.agg #[.slice a1 gs.length c1, .slice a2 os.length c2], .int .i64 n0] w fun e w' => PostW w w' e (wP (roomB gs os && inB n0 0 15) (constP n0 gs) gs []).1 os (wP (roomB gs os && inB n0 0 15) (constP n0 gs) gs []).2 := by
  have HR := Lib.hid hr
  have HR2 := Lib.hid hr2
  clear hr hr2
  have nH : w.heap.size ≠ w.heap.size + 1 := by omega
  obtain ⟨PG, hPG⟩ : ∃ z, z = (wP (roomB gs os && inB n0 0 15) (constP n0 gs) gs []).1 := ⟨_, rfl⟩
  obtain ⟨PW, hPW⟩ : ∃ z, z = (wP (roomB gs os && inB n0 0 15) (constP n0 gs) gs []).2 := ⟨_, rfl⟩
  rw [← hPG, ← hPW]
  have HPG := Lib.hid hPG
  have HPW := Lib.hid hPW
  clear hPG hPW
  go_enter Try.func15, Try.ntmps15
  go_wp2_with fail
  refine (copyCircuit_any gs os _ _ _ _ _ hm hm2 (HR.out.below (by (repeat (first | with_reducible exact Below.refl _ _ | (with_reducible refine bel_next ?_ ?_ (by assumption)) | (with_reducible refine Below.alloc ?_ ?_ _) | (with_reducible refine Below.drew ?_) | (with_reducible refine below_drewN ?_ _) | (with_reducible refine Below.setCell ?_ ?_ _))) <;> (first | omega | (simp; done) | (simp; omega)))) (HR2.out.below (by (repeat (first | with_reducible exact Below.refl _ _ | (with_reducible refine bel_next ?_ ?_ (by assumption)) | (with_reducible refine Below.alloc ?_ ?_ _) | (with_reducible refine Below.drew ?_) | (with_reducible refine below_drewN ?_ _) | (with_reducible refine Below.setCell ?_ ?_ _))) <;> (first | omega | (simp; done) | (simp; omega))))).mono ?_
  rintro e w1 ⟨g1, d1, g2, d2, rfl, ho1, ho2, hne, hb1⟩
  have z1 := hb1.size
  (try simp at z1)
  have y1a : w.heap.size < w1.heap.size := (by omega)
  have y1b : w.heap.size + 1 < w1.heap.size := (by omega)
  have k1_0 := bel_keeps hb1 (b := w.heap.size) (o := 0) (v := .slice a1 gs.length c1) (by first | (go_simp; done) | assumption)
  have k1_1 := bel_keeps hb1 (b := w.heap.size) (o := 1) (v := .slice a2 os.length c2) (by first | (go_simp; done) | assumption)
  have k1_2 := bel_keeps hb1 (b := w.heap.size + 1) (o := 0) (v := .slice none 0 0) (by first | (go_simp; done) | assumption)
  have k1_3 := bel_keeps hb1 (b := w.heap.size + 1) (o := 1) (v := .slice none 0 0) (by first | (go_simp; done) | assumption)
  have f1_0 := bel_free hb1 (b := w.heap.size + 1) (o := 0) (by first | omega | (simp; done) | (simp; omega)) (by first | (go_simp; done) | assumption)
  have f1_1 := bel_free hb1 (b := w.heap.size + 1) (o := 1) (by first | omega | (simp; done) | (simp; omega)) (by first | (go_simp; done) | assumption)
  have hbw1 : Below w.heap.size w w1 := (by (repeat (first | with_reducible exact Below.refl _ _ | (with_reducible refine bel_next ?_ ?_ (by assumption)) | (with_reducible refine Below.alloc ?_ ?_ _) | (with_reducible refine Below.drew ?_) | (with_reducible refine below_drewN ?_ _) | (with_reducible refine Below.setCell ?_ ?_ _))) <;> (first | omega | (simp; done) | (simp; omega)))
  go_wp2_with fail
  obtain ⟨W, hW⟩ : ∃ W, W = w1.alloc (.cells #[.slice (some ⟨g1, 0, none⟩) gs.length d1, .slice (some ⟨g2, 0, none⟩) os.length d2] 72) := ⟨_, rfl⟩
  obtain ⟨bx, hbx⟩ : ∃ b, b = w1.heap.size := ⟨_, rfl⟩
  rw [← hW, ← hbx]
  have hbW : Below w1.heap.size w1 W := by rw [hW]; exact (Below.refl _ _).alloc (Nat.le_refl _) _
  have HWB := Lib.hid (WB.start (w0 := w) (w := W) (bx := bx) (ho1.lo (by simp)) (ho2.lo (by simp)) hne (hbw1.trans (hbW.mono (by omega))) hbW hbx (by rw [hW]; simp) (by rw [hW, hbx]; go_simp) (by rw [hW, hbx]; go_simp) (by rw [hW, hbx]; go_simp) (by rw [hW, hbx]; go_simp))
  have hbb : w.heap.size + 2 ≤ bx := by omega
  have zW := hbW.size
  (try simp at zW)
  have yWa : w.heap.size < W.heap.size := (by omega)
  have yWb : w.heap.size + 1 < W.heap.size := (by omega)
  have kW_0 := bel_keeps hbW (b := w.heap.size) (o := 0) (v := .slice a1 gs.length c1) (by first | (go_simp; done) | assumption)
  have kW_1 := bel_keeps hbW (b := w.heap.size) (o := 1) (v := .slice a2 os.length c2) (by first | (go_simp; done) | assumption)
  have kW_2 := bel_keeps hbW (b := w.heap.size + 1) (o := 0) (v := .slice none 0 0) (by first | (go_simp; done) | assumption)
  have kW_3 := bel_keeps hbW (b := w.heap.size + 1) (o := 1) (v := .slice none 0 0) (by first | (go_simp; done) | assumption)
  have fW_0 := bel_free hbW (b := w.heap.size + 1) (o := 0) (by first | omega | (simp; done) | (simp; omega)) (by first | (go_simp; done) | assumption)
  have fW_1 := bel_free hbW (b := w.heap.size + 1) (o := 1) (by first | omega | (simp; done) | (simp; omega)) (by first | (go_simp; done) | assumption)
  clear k1_0 k1_1 k1_2 k1_3 f1_0 f1_1
  clear hW hbx hbW ho1 ho2 hne hb1 hbw1
  have hlW := HWB.out.l
  refine (isWordOf0_any gs os _ _ _ _ _ hm hm2 (HR.out.below hlW) (HR2.out.below hlW)).mono ?_
  rintro e w9 ⟨rfl, hb9⟩
  have HWB9 := Lib.hid (HWB.out.below hb9)
  have z9 := hb9.size
  (try simp at z9)
  have y9a : w.heap.size < w9.heap.size := (by omega)
  have y9b : w.heap.size + 1 < w9.heap.size := (by omega)
  have k9_0 := bel_keeps hb9 (b := w.heap.size) (o := 0) (v := .slice a1 gs.length c1) (by first | (go_simp; done) | assumption)
  have k9_1 := bel_keeps hb9 (b := w.heap.size) (o := 1) (v := .slice a2 os.length c2) (by first | (go_simp; done) | assumption)
  have k9_2 := bel_keeps hb9 (b := w.heap.size + 1) (o := 0) (v := .slice none 0 0) (by first | (go_simp; done) | assumption)
  have k9_3 := bel_keeps hb9 (b := w.heap.size + 1) (o := 1) (v := .slice none 0 0) (by first | (go_simp; done) | assumption)
  have f9_0 := bel_free hb9 (b := w.heap.size + 1) (o := 0) (by first | omega | (simp; done) | (simp; omega)) (by first | (go_simp; done) | assumption)
  have f9_1 := bel_free hb9 (b := w.heap.size + 1) (o := 1) (by first | omega | (simp; done) | (simp; omega)) (by first | (go_simp; done) | assumption)
  clear kW_0 kW_1 kW_2 kW_3 fW_0 fW_1
  clear hb9
  cases hq : roomB gs os
  · have e1 : PG = gs := by rw [HPG.out, show (roomB gs os && inB n0 0 15) = false from by rw [hq]; rfl]; rfl
    have e2 : PW = [] := by rw [HPW.out, show (roomB gs os && inB n0 0 15) = false from by rw [hq]; rfl]; rfl
    have HE1 := Lib.hid e1
    have HE2 := Lib.hid e2
    clear e1 e2
    obtain ⟨adR, capR, hcR, _, _⟩ := HWB9.out.b.row
    have hc1R := HWB9.out.b.snd
    have hlR := HWB9.out.l
    go_wp2_with fail
    refine bodyPost_ret (v := .tuple #[.agg #[.slice adR gs.length capR, .slice (some ⟨g2, 0, none⟩) os.length d2], .slice none 0 0]) (by simp [results, Try.results15, go_sem, *]) rfl ?_
    rw [HE1.out, HE2.out]
    exact HWB9.out.postW hcR rfl (own_nil _ _ _ _) (fun y e => by cases e) (Nat.le_refl _) (fun b hb => (by (repeat (first | with_reducible exact Kp.refl _ _ | (with_reducible refine Kp.rng ?_ (by assumption) ?_) | (with_reducible refine Kp.below ?_ (by assumption)) | (with_reducible refine Kp.grown ?_ (by assumption) ?_) | (with_reducible refine Kp.alloc ?_ _) | (with_reducible refine Kp.drew ?_) | (with_reducible refine Kp.drewN ?_ _) | (with_reducible refine Kp.setCell ?_ _ ?_))) <;> (first | omega | (simp; done) | (simp; omega)))) (by (repeat (first | with_reducible exact Below.refl _ _ | (with_reducible refine bel_next ?_ ?_ (by assumption)) | (with_reducible refine Below.alloc ?_ ?_ _) | (with_reducible refine Below.drew ?_) | (with_reducible refine below_drewN ?_ _) | (with_reducible refine Below.setCell ?_ ?_ _))) <;> (first | omega | (simp; done) | (simp; omega) | (simp [World.setCell]; omega)))
  · have hn1 : allB [n0] 0 15 = inB n0 0 15 := by simp [allB]
    have HN1 := Lib.hid hn1
    clear hn1
    go_wp2_with fail
    refine (areNibbles_any [n0] _ _ _ (by simp [maxLen]) (.inr ⟨w9.heap.size, 0, rfl, fun i hi => by (obtain rfl : i = 0 := by simpa using hi); go_simp; rfl⟩)).mono ?_
    rintro e w10 ⟨rfl, hw10⟩
    rw [HN1.out]
    have hb10 : Below w9.heap.size w9 w10 := by rw [← hw10]; exact (Below.refl _ _).alloc (Nat.le_refl _) _
    have HWB10 := Lib.hid (HWB9.out.below hb10)
    have z10 := hb10.size
    (try simp at z10)
    have y10a : w.heap.size < w10.heap.size := (by omega)
    have y10b : w.heap.size + 1 < w10.heap.size := (by omega)
    have k10_0 := bel_keeps hb10 (b := w.heap.size) (o := 0) (v := .slice a1 gs.length c1) (by first | (go_simp; done) | assumption)
    have k10_1 := bel_keeps hb10 (b := w.heap.size) (o := 1) (v := .slice a2 os.length c2) (by first | (go_simp; done) | assumption)
    have k10_2 := bel_keeps hb10 (b := w.heap.size + 1) (o := 0) (v := .slice none 0 0) (by first | (go_simp; done) | assumption)
    have k10_3 := bel_keeps hb10 (b := w.heap.size + 1) (o := 1) (v := .slice none 0 0) (by first | (go_simp; done) | assumption)
    have f10_0 := bel_free hb10 (b := w.heap.size + 1) (o := 0) (by first | omega | (simp; done) | (simp; omega)) (by first | (go_simp; done) | assumption)
    have f10_1 := bel_free hb10 (b := w.heap.size + 1) (o := 1) (by first | omega | (simp; done) | (simp; omega)) (by first | (go_simp; done) | assumption)
    clear k9_0 k9_1 k9_2 k9_3 f9_0 f9_1
    clear hb10
    clear hw10
    cases hi : inB n0 0 15
    · have e1 : PG = gs := by rw [HPG.out, show (roomB gs os && inB n0 0 15) = false from by rw [hi]; simp]; rfl
      have e2 : PW = [] := by rw [HPW.out, show (roomB gs os && inB n0 0 15) = false from by rw [hi]; simp]; rfl
      have HE1 := Lib.hid e1
      have HE2 := Lib.hid e2
      clear e1 e2
      obtain ⟨adR, capR, hcR, _, _⟩ := HWB10.out.b.row
      have hc1R := HWB10.out.b.snd
      have hlR := HWB10.out.l
      go_wp2_with fail
      refine bodyPost_ret (v := .tuple #[.agg #[.slice adR gs.length capR, .slice (some ⟨g2, 0, none⟩) os.length d2], .slice none 0 0]) (by simp [results, Try.results15, go_sem, *]) rfl ?_
      rw [HE1.out, HE2.out]
      exact HWB10.out.postW hcR rfl (own_nil _ _ _ _) (fun y e => by cases e) (Nat.le_refl _) (fun b hb => (by (repeat (first | with_reducible exact Kp.refl _ _ | (with_reducible refine Kp.rng ?_ (by assumption) ?_) | (with_reducible refine Kp.below ?_ (by assumption)) | (with_reducible refine Kp.grown ?_ (by assumption) ?_) | (with_reducible refine Kp.alloc ?_ _) | (with_reducible refine Kp.drew ?_) | (with_reducible refine Kp.drewN ?_ _) | (with_reducible refine Kp.setCell ?_ _ ?_))) <;> (first | omega | (simp; done) | (simp; omega)))) (by (repeat (first | with_reducible exact Below.refl _ _ | (with_reducible refine bel_next ?_ ?_ (by assumption)) | (with_reducible refine Below.alloc ?_ ?_ _) | (with_reducible refine Below.drew ?_) | (with_reducible refine below_drewN ?_ _) | (with_reducible refine Below.setCell ?_ ?_ _))) <;> (first | omega | (simp; done) | (simp; omega) | (simp [World.setCell]; omega)))
    · have e1 : PG = (constP n0 gs).1 := by rw [HPG.out, show (roomB gs os && inB n0 0 15) = true from by rw [hq, hi]; rfl]; rfl
      have e2 : PW = (constP n0 gs).2 := by rw [HPW.out, show (roomB gs os && inB n0 0 15) = true from by rw [hq, hi]; rfl]; rfl
      have HE1 := Lib.hid e1
      have HE2 := Lib.hid e2
      clear e1 e2
      have h59 := roomB_room0 hq
      have hi2 := hi
      simp [inB] at hi2
      obtain ⟨hx0, hx1⟩ := hi2
      obtain ⟨W9, hW9⟩ : ∃ X, X = w10.alloc (.cells #[] 3) := ⟨_, rfl⟩
      have HS0 := Lib.hid (show Bs w10 W9 (w.heap.size + 2) bx gs (.slice (some ⟨g2, 0, none⟩) os.length d2) w10.heap.size 0 0 [] by rw [hW9]; exact Bs.start HWB10.out.b)
      have hBl := HWB10.out.b.le
      go_wp2_with fail
      rw [← hW9]
      clear hW9
      go_loopw [7, 8] (fun u i wr => ∃ (k ct gt : Nat) (G : List Gt) (T : List Int), k ≤ 4 ∧ i = .int .i64 k ∧ u = .slice (some ⟨gt, 0, none⟩) k ct ∧ rnds (fun h k => put1 h ⟨2, (n0 / 2 ^ k) % 2, 0⟩) gs k = (G, T) ∧ Bs w10 wr (w.heap.size + 2) bx G (.slice (some ⟨g2, 0, none⟩) os.length d2) gt k ct T) (fun _ i _ => 4 - (intOf i).toNat)
      case atStart => exact ⟨0, 0, _, _, _, Nat.zero_le _, rfl, rfl, rfl, HS0.out⟩
      case round =>
        obtain ⟨k, ct, gt, G, T, hk, rfl, rfl, hsp, hbs⟩ := hrel
        have hGl := rnds_le (f := fun h k => put1 h ⟨2, (n0 / 2 ^ k) % 2, 0⟩) (m := 1) (by intro h k; simp [put1]) gs k
        rw [hsp] at hGl
        simp only at hGl
        have HSP := Lib.hid hsp
        have HBS := Lib.hid hbs
        have zr := hbs.l.size
        have gtl := hbs.ge
        clear hsp hbs
        by_cases hlt : k < 4
        · have hk' : (k : Int) < 4 := by omega
          have HST := Lib.hid (rnds_succ (fun h k => put1 h ⟨2, (n0 / 2 ^ k) % 2, 0⟩) gs k HSP.out)
          have HBT := Lib.hid (bit_and4 hx0 hx1 hlt)
          go_wp2_with fail
          refine (bgate_any G 2 _ 0 (.slice (some ⟨g2, 0, none⟩) os.length d2) (w.heap.size + 2) bx _ (HBS.out).b (by first | omega | (simp; omega))).mono ?_
          rintro e w2 ⟨rfl, hB2, hF2, hL2⟩
          rw [HBT.out] at hB2
          obtain ⟨G1, e1⟩ : ∃ X, X = G ++ [⟨2, n0 / 2 ^ k % 2, 0⟩] := ⟨_, rfl⟩
          rw [← e1] at hB2
          have l1 : G1.length = G.length + 1 := by rw [e1]; simp
          have E1 := Lib.hid e1
          have S1 := Lib.hid ((HBS.out).on hB2 hF2 hL2)
          have z1 : wr.heap.size ≤ w2.heap.size := hL2.size
          have L1 := Lib.hid l1
          have n1 : G1.length ≤ 900000 + 100 + 0 := by omega
          clear e1 hB2 hF2 hL2 l1
          go_wp2_with (refine wpList_push _ rfl (.tmp 31) (.tmp 38) rfl w10.heap.size gt k ct T (G.length : Int) w2.heap.size 1 (by rfl) (by rfl) (S1.out.o.alloc _) (by go_simp) (by omega) (by simp; omega) ?_; intro g6 d6 w8 ho6 hb6 hg6 hat6)
          have HN : Hid (rnds (fun h k => put1 h ⟨2, (n0 / 2 ^ k) % 2, 0⟩) gs (k + 1) = (G1, T ++ [(G.length : Int)])) := by show _ = _; rw [HST.out, E1.out]; simp [put1]
          have HP := Lib.hid (S1.out.push _ ho6 hb6 hg6 hat6)
          clear ho6 hb6 hg6 hat6
          go_wp2_with fail
          go_roundw
          case rel => exact ⟨k + 1, d6, g6, _, _, by omega, by go_num, rfl, HN.out, HP.out⟩
          case measure => first | (simp [intOf]; done) | (simp [intOf]; omega)
        · obtain rfl : k = 4 := by omega
          have hp : constP n0 gs = (G, T) := HSP.out
          rw [hp] at HE1 HE2
          clear hp
          have HWB11 := Lib.hid (HWB10.out.on HBS.out.b HBS.out.r HBS.out.l)
          have k11_0 := Fr.cell HBS.out.r (HWB10.out.b.frn_lo (by omega)) k10_0
          have k11_1 := Fr.cell HBS.out.r (HWB10.out.b.frn_lo (by omega)) k10_1
          have k11_2 := Fr.cell HBS.out.r (HWB10.out.b.frn_lo (by omega)) k10_2
          have k11_3 := Fr.cell HBS.out.r (HWB10.out.b.frn_lo (by omega)) k10_3
          have f11_0 := Fr.free HBS.out.r (HWB10.out.b.frn_lo (by omega)) f10_0
          have f11_1 := Fr.free HBS.out.r (HWB10.out.b.frn_lo (by omega)) f10_1
          clear k10_0 k10_1 k10_2 k10_3 f10_0 f10_1
          have HS11 := HBS
          obtain ⟨adR, capR, hcR, _, _⟩ := HWB11.out.b.row
          have hc1R := HWB11.out.b.snd
          have hlR := HWB11.out.l
          go_wp2_with fail
          refine bodyPost_ret (v := .tuple #[.agg #[.slice adR (G).length capR, .slice (some ⟨g2, 0, none⟩) os.length d2], .slice (some ⟨gt, 0, none⟩) 4 ct]) (by simp [results, Try.results15, go_sem, *]) rfl ?_
          rw [HE1.out, HE2.out]
          exact HWB11.out.postW hcR (by have := HS11.out.o.len; simpa using this.symm) (by have h1 := HS11.out.ge; have h2 := HWB10.out.b.le; exact HS11.out.o.later (by (repeat (first | with_reducible exact Kp.refl _ _ | (with_reducible refine Kp.rng ?_ (by assumption) ?_) | (with_reducible refine Kp.below ?_ (by assumption)) | (with_reducible refine Kp.grown ?_ (by assumption) ?_) | (with_reducible refine Kp.alloc ?_ _) | (with_reducible refine Kp.drew ?_) | (with_reducible refine Kp.drewN ?_ _) | (with_reducible refine Kp.setCell ?_ _ ?_))) <;> (first | omega | (simp; done) | (simp; omega)))) (fun y e => by obtain rfl := Option.some.inj e; exact ⟨HS11.out.f.2.2, by have h1 := HS11.out.ge; have h2 := HWB10.out.f.1; show gt ≠ g2; omega⟩) (by have := HWB10.out.b.le; omega) (fun b hb => (by (repeat (first | with_reducible exact Kp.refl _ _ | (with_reducible refine Kp.rng ?_ (by assumption) ?_) | (with_reducible refine Kp.below ?_ (by assumption)) | (with_reducible refine Kp.grown ?_ (by assumption) ?_) | (with_reducible refine Kp.alloc ?_ _) | (with_reducible refine Kp.drew ?_) | (with_reducible refine Kp.drewN ?_ _) | (with_reducible refine Kp.setCell ?_ _ ?_))) <;> (first | omega | (simp; done) | (simp; omega)))) (by (repeat (first | with_reducible exact Below.refl _ _ | (with_reducible refine bel_next ?_ ?_ (by assumption)) | (with_reducible refine Below.alloc ?_ ?_ _) | (with_reducible refine Below.drew ?_) | (with_reducible refine below_drewN ?_ _) | (with_reducible refine Below.setCell ?_ ?_ _))) <;> (first | omega | (simp; done) | (simp; omega)))
end Go.Proofs.Ytfcijloiebnloaa

/- WordM -/
namespace Go.Proofs.Ytfcijloiebnloaa
open Go.RowKit
set_option linter.unusedVariables false
set_option linter.unusedSimpArgs false

set_option maxRecDepth 20000 in
set_option maxHeartbeats 8000000 in
theorem iWordMux_any (gs : List Gt) (os : List Int) (a1 a2 : Option Addr) (c1 c2 : Nat) (w : World) (hm : gs.length ≤ 1048576) (hm2 : os.length ≤ 1048576) (hr : RdC w a1 (gtCells gs)) (hr2 : RdC w a2 (I64 os)) (s0 : Int) (xs : List Int) (nx : Nat) (ax : Option Addr) (cx : Nat) (hlx : xs.length = nx) (hmx : nx ≤ 1048576) (hrx : RdC w ax (I64 xs)) (ys : List Int) (ny : Nat) (ay : Option Addr) (cy : Nat) (hly : ys.length = ny) (hmy : ny ≤ 1048576) (hry : RdC w ay (I64 ys))  :
    Calls Try.prog 24 #[.agg #[.slice a1 gs.length c1, .slice a2 os.length c2], .int .i64 s0, .slice ax nx cx, .slice ay ny cy] w fun e w' => PostW w w' e (wP (askB gs os xs ys && inB s0 0 ((gs.length : Int) - 1)) (muxP s0 xs ys gs) gs []).1 os (wP (askB gs os xs ys && inB s0 0 ((gs.length : Int) - 1)) (muxP s0 xs ys gs) gs []).2 := by
  have HR := Lib.hid hr
  have HR2 := Lib.hid hr2
  have HRx := Lib.hid hrx
  have HRy := Lib.hid hry
  clear hr hr2 hrx hry
  have nH : w.heap.size ≠ w.heap.size + 1 := by omega
  obtain ⟨PG, hPG⟩ : ∃ z, z = (wP (askB gs os xs ys && inB s0 0 ((gs.length : Int) - 1)) (muxP s0 xs ys gs) gs []).1 := ⟨_, rfl⟩
  obtain ⟨PW, hPW⟩ : ∃ z, z = (wP (askB gs os xs ys && inB s0 0 ((gs.length : Int) - 1)) (muxP s0 xs ys gs) gs []).2 := ⟨_, rfl⟩
  rw [← hPG, ← hPW]
  have HPG := Lib.hid hPG
  have HPW := Lib.hid hPW
  clear hPG hPW
  go_enter Try.func24, Try.ntmps24
  go_wp2_with fail
  refine (copyCircuit_any gs os _ _ _ _ _ hm hm2 (HR.out.below (by (repeat (first | with_reducible exact Below.refl _ _ | (with_reducible refine bel_next ?_ ?_ (by assumption)) | (with_reducible refine Below.alloc ?_ ?_ _) | (with_reducible refine Below.drew ?_) | (with_reducible refine below_drewN ?_ _) | (with_reducible refine Below.setCell ?_ ?_ _))) <;> (first | omega | (simp; done) | (simp; omega)))) (HR2.out.below (by (repeat (first | with_reducible exact Below.refl _ _ | (with_reducible refine bel_next ?_ ?_ (by assumption)) | (with_reducible refine Below.alloc ?_ ?_ _) | (with_reducible refine Below.drew ?_) | (with_reducible refine below_drewN ?_ _) | (with_reducible refine Below.setCell ?_ ?_ _))) <;> (first | omega | (simp; done) | (simp; omega))))).mono ?_
  rintro e w1 ⟨g1, d1, g2, d2, rfl, ho1, ho2, hne, hb1⟩
  have z1 := hb1.size
  (try simp at z1)
  have y1a : w.heap.size < w1.heap.size := (by omega)
  have y1b : w.heap.size + 1 < w1.heap.size := (by omega)
  have k1_0 := bel_keeps hb1 (b := w.heap.size) (o := 0) (v := .slice a1 gs.length c1) (by first | (go_simp; done) | assumption)
  have k1_1 := bel_keeps hb1 (b := w.heap.size) (o := 1) (v := .slice a2 os.length c2) (by first | (go_simp; done) | assumption)
  have k1_2 := bel_keeps hb1 (b := w.heap.size + 1) (o := 0) (v := .slice none 0 0) (by first | (go_simp; done) | assumption)
  have k1_3 := bel_keeps hb1 (b := w.heap.size + 1) (o := 1) (v := .slice none 0 0) (by first | (go_simp; done) | assumption)
  have f1_0 := bel_free hb1 (b := w.heap.size + 1) (o := 0) (by first | omega | (simp; done) | (simp; omega)) (by first | (go_simp; done) | assumption)
  have f1_1 := bel_free hb1 (b := w.heap.size + 1) (o := 1) (by first | omega | (simp; done) | (simp; omega)) (by first | (go_simp; done) | assumption)
  have hbw1 : Below w.heap.size w w1 := (by (repeat (first | with_reducible exact Below.refl _ _ | (with_reducible refine bel_next ?_ ?_ (by assumption)) | (with_reducible refine Below.alloc ?_ ?_ _) | (with_reducible refine Below.drew ?_) | (with_reducible refine below_drewN ?_ _) | (with_reducible refine Below.setCell ?_ ?_ _))) <;> (first | omega | (simp; done) | (simp; omega)))
  go_wp2_with fail
  obtain ⟨W, hW⟩ : ∃ W, W = w1.alloc (.cells #[.slice (some ⟨g1, 0, none⟩) gs.length d1, .slice (some ⟨g2, 0, none⟩) os.length d2] 72) := ⟨_, rfl⟩
  obtain ⟨bx, hbx⟩ : ∃ b, b = w1.heap.size := ⟨_, rfl⟩
  rw [← hW, ← hbx]
  have hWs : W.heap.size = bx + 1 := by rw [hW, hbx]; simp
  rw [← hWs]
  clear hWs
  have hbW : Below w1.heap.size w1 W := by rw [hW]; exact (Below.refl _ _).alloc (Nat.le_refl _) _
  have HWB := Lib.hid (WB.start (w0 := w) (w := W) (bx := bx) (ho1.lo (by simp)) (ho2.lo (by simp)) hne (hbw1.trans (hbW.mono (by omega))) hbW hbx (by rw [hW]; simp) (by rw [hW, hbx]; go_simp) (by rw [hW, hbx]; go_simp) (by rw [hW, hbx]; go_simp) (by rw [hW, hbx]; go_simp))
  have hbb : w.heap.size + 2 ≤ bx := by omega
  have zW := hbW.size
  (try simp at zW)
  have yWa : w.heap.size < W.heap.size := (by omega)
  have yWb : w.heap.size + 1 < W.heap.size := (by omega)
  have kW_0 := bel_keeps hbW (b := w.heap.size) (o := 0) (v := .slice a1 gs.length c1) (by first | (go_simp; done) | assumption)
  have kW_1 := bel_keeps hbW (b := w.heap.size) (o := 1) (v := .slice a2 os.length c2) (by first | (go_simp; done) | assumption)
  have kW_2 := bel_keeps hbW (b := w.heap.size + 1) (o := 0) (v := .slice none 0 0) (by first | (go_simp; done) | assumption)
  have kW_3 := bel_keeps hbW (b := w.heap.size + 1) (o := 1) (v := .slice none 0 0) (by first | (go_simp; done) | assumption)
  have fW_0 := bel_free hbW (b := w.heap.size + 1) (o := 0) (by first | omega | (simp; done) | (simp; omega)) (by first | (go_simp; done) | assumption)
  have fW_1 := bel_free hbW (b := w.heap.size + 1) (o := 1) (by first | omega | (simp; done) | (simp; omega)) (by first | (go_simp; done) | assumption)
  clear k1_0 k1_1 k1_2 k1_3 f1_0 f1_1
  clear hW hbx hbW ho1 ho2 hne hb1 hbw1
  have hlW := HWB.out.l
  refine (isWordOf2_any gs os _ _ _ _ _ hm hm2 (HR.out.below (hlW.trans (((Below.refl _ _).alloc (Nat.le_refl _) _).mono (by omega)))) (HR2.out.below (hlW.trans (((Below.refl _ _).alloc (Nat.le_refl _) _).mono (by omega)))) xs nx ax cx hlx hmx (HRx.out.below (hlW.trans (((Below.refl _ _).alloc (Nat.le_refl _) _).mono (by omega)))) ys ny ay cy hly hmy (HRy.out.below (hlW.trans (((Below.refl _ _).alloc (Nat.le_refl _) _).mono (by omega)))) W.heap.size 2 (by go_simp) (by go_simp)).mono ?_
  rintro e w9 ⟨rfl, hb0⟩
  have hb9 : Below W.heap.size W w9 := ((Below.refl _ _).alloc (Nat.le_refl _) _).trans (hb0.mono (by simp))
  clear hb0
  have HWB9 := Lib.hid (HWB.out.below hb9)
  have z9 := hb9.size
  (try simp at z9)
  have y9a : w.heap.size < w9.heap.size := (by omega)
  have y9b : w.heap.size + 1 < w9.heap.size := (by omega)
  have k9_0 := bel_keeps hb9 (b := w.heap.size) (o := 0) (v := .slice a1 gs.length c1) (by first | (go_simp; done) | assumption)
  have k9_1 := bel_keeps hb9 (b := w.heap.size) (o := 1) (v := .slice a2 os.length c2) (by first | (go_simp; done) | assumption)
  have k9_2 := bel_keeps hb9 (b := w.heap.size + 1) (o := 0) (v := .slice none 0 0) (by first | (go_simp; done) | assumption)
  have k9_3 := bel_keeps hb9 (b := w.heap.size + 1) (o := 1) (v := .slice none 0 0) (by first | (go_simp; done) | assumption)
  have f9_0 := bel_free hb9 (b := w.heap.size + 1) (o := 0) (by first | omega | (simp; done) | (simp; omega)) (by first | (go_simp; done) | assumption)
  have f9_1 := bel_free hb9 (b := w.heap.size + 1) (o := 1) (by first | omega | (simp; done) | (simp; omega)) (by first | (go_simp; done) | assumption)
  clear kW_0 kW_1 kW_2 kW_3 fW_0 fW_1
  clear hb9
  cases hq : askB gs os xs ys
  · have e1 : PG = gs := by rw [HPG.out, show (askB gs os xs ys && inB s0 0 ((gs.length : Int) - 1)) = false from by rw [hq]; rfl]; rfl
    have e2 : PW = [] := by rw [HPW.out, show (askB gs os xs ys && inB s0 0 ((gs.length : Int) - 1)) = false from by rw [hq]; rfl]; rfl
    have HE1 := Lib.hid e1
    have HE2 := Lib.hid e2
    clear e1 e2
    obtain ⟨adR, capR, hcR, _, _⟩ := HWB9.out.b.row
    have hc1R := HWB9.out.b.snd
    have hlR := HWB9.out.l
    go_wp2_with fail
    refine bodyPost_ret (v := .tuple #[.agg #[.slice adR gs.length capR, .slice (some ⟨g2, 0, none⟩) os.length d2], .slice none 0 0]) (by simp [results, Try.results24, go_sem, *]) rfl ?_
    rw [HE1.out, HE2.out]
    exact HWB9.out.postW hcR rfl (own_nil _ _ _ _) (fun y e => by cases e) (Nat.le_refl _) (fun b hb => (by (repeat (first | with_reducible exact Kp.refl _ _ | (with_reducible refine Kp.rng ?_ (by assumption) ?_) | (with_reducible refine Kp.below ?_ (by assumption)) | (with_reducible refine Kp.grown ?_ (by assumption) ?_) | (with_reducible refine Kp.alloc ?_ _) | (with_reducible refine Kp.drew ?_) | (with_reducible refine Kp.drewN ?_ _) | (with_reducible refine Kp.setCell ?_ _ ?_))) <;> (first | omega | (simp; done) | (simp; omega)))) (by (repeat (first | with_reducible exact Below.refl _ _ | (with_reducible refine bel_next ?_ ?_ (by assumption)) | (with_reducible refine Below.alloc ?_ ?_ _) | (with_reducible refine Below.drew ?_) | (with_reducible refine below_drewN ?_ _) | (with_reducible refine Below.setCell ?_ ?_ _))) <;> (first | omega | (simp; done) | (simp; omega) | (simp [World.setCell]; omega)))
  · go_wp2_with fail
    refine (within_any _ _ _ _).mono ?_
    rintro e _ ⟨rfl, rfl⟩
    cases hi : inB s0 0 ((gs.length : Int) - 1)
    · have e1 : PG = gs := by rw [HPG.out, show (askB gs os xs ys && inB s0 0 ((gs.length : Int) - 1)) = false from by rw [hi]; simp]; rfl
      have e2 : PW = [] := by rw [HPW.out, show (askB gs os xs ys && inB s0 0 ((gs.length : Int) - 1)) = false from by rw [hi]; simp]; rfl
      have HE1 := Lib.hid e1
      have HE2 := Lib.hid e2
      clear e1 e2
      obtain ⟨adR, capR, hcR, _, _⟩ := HWB9.out.b.row
      have hc1R := HWB9.out.b.snd
      have hlR := HWB9.out.l
      go_wp2_with fail
      refine bodyPost_ret (v := .tuple #[.agg #[.slice adR gs.length capR, .slice (some ⟨g2, 0, none⟩) os.length d2], .slice none 0 0]) (by simp [results, Try.results24, go_sem, *]) rfl ?_
      rw [HE1.out, HE2.out]
      exact HWB9.out.postW hcR rfl (own_nil _ _ _ _) (fun y e => by cases e) (Nat.le_refl _) (fun b hb => (by (repeat (first | with_reducible exact Kp.refl _ _ | (with_reducible refine Kp.rng ?_ (by assumption) ?_) | (with_reducible refine Kp.below ?_ (by assumption)) | (with_reducible refine Kp.grown ?_ (by assumption) ?_) | (with_reducible refine Kp.alloc ?_ _) | (with_reducible refine Kp.drew ?_) | (with_reducible refine Kp.drewN ?_ _) | (with_reducible refine Kp.setCell ?_ _ ?_))) <;> (first | omega | (simp; done) | (simp; omega)))) (by (repeat (first | with_reducible exact Below.refl _ _ | (with_reducible refine bel_next ?_ ?_ (by assumption)) | (with_reducible refine Below.alloc ?_ ?_ _) | (with_reducible refine Below.drew ?_) | (with_reducible refine below_drewN ?_ _) | (with_reducible refine Below.setCell ?_ ?_ _))) <;> (first | omega | (simp; done) | (simp; omega) | (simp [World.setCell]; omega)))
    · have e1 : PG = (muxP s0 xs ys gs).1 := by rw [HPG.out, show (askB gs os xs ys && inB s0 0 ((gs.length : Int) - 1)) = true from by rw [hq, hi]; rfl]; rfl
      have e2 : PW = (muxP s0 xs ys gs).2 := by rw [HPW.out, show (askB gs os xs ys && inB s0 0 ((gs.length : Int) - 1)) = true from by rw [hq, hi]; rfl]; rfl
      have HE1 := Lib.hid e1
      have HE2 := Lib.hid e2
      clear e1 e2
      obtain ⟨hx4, hy4, h59⟩ := askB_len hq
      rw [hlx] at hx4
      rw [hly] at hy4
      subst hx4; subst hy4
      have HB := Lib.hid HWB9.out.b
      have hBl := HWB9.out.b.le
      have HN2 := Lib.hid HWB9.out.f
      have HFx := Lib.hid (HWB9.out.fra HRx.out (by omega))
      have hrox := HRx.out.below HWB9.out.l
      clear HRx
      have HRx := Lib.hid hrox
      have HLx := Lib.hid hlx
      clear hrox hlx
      have HFy := Lib.hid (HWB9.out.fra HRy.out (by omega))
      have hroy := HRy.out.below HWB9.out.l
      clear HRy
      have HRy := Lib.hid hroy
      have HLy := Lib.hid hly
      clear hroy hly
      obtain ⟨W9, hW9⟩ : ∃ X, X = w9.alloc (.cells #[] 3) := ⟨_, rfl⟩
      have HS0 := Lib.hid (show Bs w9 W9 (w.heap.size + 2) bx gs (.slice (some ⟨g2, 0, none⟩) os.length d2) w9.heap.size 0 0 [] by rw [hW9]; exact Bs.start HWB9.out.b)
      have hBl := HWB9.out.b.le
      go_wp2_with fail
      rw [← hW9]
      clear hW9
      go_loopw [11, 40] (fun u i wr => ∃ (k ct gt : Nat) (G : List Gt) (T : List Int), k ≤ 4 ∧ i = .int .i64 k ∧ u = .slice (some ⟨gt, 0, none⟩) k ct ∧ rnds (fun h k => (h ++ [⟨3, at0 xs k, at0 ys k⟩, ⟨4, s0, h.length⟩, ⟨3, (h.length : Int) + 1, at0 ys k⟩], (h.length : Int) + 2)) gs k = (G, T) ∧ Bs w9 wr (w.heap.size + 2) bx G (.slice (some ⟨g2, 0, none⟩) os.length d2) gt k ct T) (fun _ i _ => 4 - (intOf i).toNat)
      case atStart => exact ⟨0, 0, _, _, _, Nat.zero_le _, rfl, rfl, rfl, HS0.out⟩
      case round =>
        obtain ⟨k, ct, gt, G, T, hk, rfl, rfl, hsp, hbs⟩ := hrel
        have hGl := rnds_le (f := fun h k => (h ++ [⟨3, at0 xs k, at0 ys k⟩, ⟨4, s0, h.length⟩, ⟨3, (h.length : Int) + 1, at0 ys k⟩], (h.length : Int) + 2)) (m := 3) (by intro h k; simp [put1]) gs k
        rw [hsp] at hGl
        simp only at hGl
        have HSP := Lib.hid hsp
        have HBS := Lib.hid hbs
        have zr := hbs.l.size
        have gtl := hbs.ge
        clear hsp hbs
        by_cases hlt : k < 4
        · have hk' : (k : Int) < 4 := by omega
          have HST := Lib.hid (rnds_succ (fun h k => (h ++ [⟨3, at0 xs k, at0 ys k⟩, ⟨4, s0, h.length⟩, ⟨3, (h.length : Int) + 1, at0 ys k⟩], (h.length : Int) + 2)) gs k HSP.out)
          obtain ⟨blx, offx, rfl, hbx, hcx⟩ := HRx.out.elem k (by rw [HLx.out]; exact hlt)
          obtain ⟨vx, hvx⟩ : ∃ z, z = at0 xs (k : Int) := ⟨_, rfl⟩
          rw [← hvx] at hcx
          have HVx := Lib.hid hvx
          have HCx := Lib.hid hcx
          have hcx0 := HBS.out.cell (HFx.out _ _ rfl) HCx.out
          clear hvx hcx
          obtain ⟨bly, offy, rfl, hby, hcy⟩ := HRy.out.elem k (by rw [HLy.out]; exact hlt)
          obtain ⟨vy, hvy⟩ : ∃ z, z = at0 ys (k : Int) := ⟨_, rfl⟩
          rw [← hvy] at hcy
          have HVy := Lib.hid hvy
          have HCy := Lib.hid hcy
          have hcy0 := HBS.out.cell (HFy.out _ _ rfl) HCy.out
          clear hvy hcy
          obtain ⟨G1, e1⟩ : ∃ X, X = G ++ [⟨3, vx, vy⟩] := ⟨_, rfl⟩
          have E1 := Lib.hid e1
          have L1 := Lib.hid (show G1.length = G.length + 1 by rw [e1]; simp)
          clear e1
          have HPUT : ∀ W, Bld W (w.heap.size + 2) bx G (.slice (some ⟨g2, 0, none⟩) os.length d2) → Calls Try.prog 59 #[.pointer (some ⟨bx, 0, none⟩), .int .i64 3, .int .i64 vx, .int .i64 vy] W fun e w' => e = .returned (.int .i64 (G.length : Int)) ∧ Bld w' (w.heap.size + 2) bx G1 (.slice (some ⟨g2, 0, none⟩) os.length d2) ∧ Fr bx W w' ∧ Below (w.heap.size + 2) W w' := fun W h => by
            have := bgate_any G 3 vx vy (.slice (some ⟨g2, 0, none⟩) os.length d2) (w.heap.size + 2) bx W h (by omega)
            rw [← E1.out] at this; exact this
          have HPT1 := Lib.hid HPUT
          clear HPUT
          obtain ⟨G2, e2⟩ : ∃ X, X = G1 ++ [⟨4, s0, (G.length : Int)⟩] := ⟨_, rfl⟩
          have E2 := Lib.hid e2
          have L2 := Lib.hid (show G2.length = G.length + 2 by rw [e2]; simp [L1.out])
          clear e2
          have HPUT : ∀ W, Bld W (w.heap.size + 2) bx G1 (.slice (some ⟨g2, 0, none⟩) os.length d2) → Calls Try.prog 59 #[.pointer (some ⟨bx, 0, none⟩), .int .i64 4, .int .i64 s0, .int .i64 (G.length : Int)] W fun e w' => e = .returned (.int .i64 ((G.length : Int) + 1)) ∧ Bld w' (w.heap.size + 2) bx G2 (.slice (some ⟨g2, 0, none⟩) os.length d2) ∧ Fr bx W w' ∧ Below (w.heap.size + 2) W w' := fun W h => by
            have := bgate_any G1 4 s0 (G.length : Int) (.slice (some ⟨g2, 0, none⟩) os.length d2) (w.heap.size + 2) bx W h (by have := L1.out; omega)
            rw [← E2.out, show (G1.length : Int) = (G.length : Int) + 1 by have := L1.out; omega] at this; exact this
          have HPT2 := Lib.hid HPUT
          clear HPUT
          obtain ⟨G3, e3⟩ : ∃ X, X = G2 ++ [⟨3, ((G.length : Int) + 1), vy⟩] := ⟨_, rfl⟩
          have E3 := Lib.hid e3
          have L3 := Lib.hid (show G3.length = G.length + 3 by rw [e3]; simp [L2.out])
          clear e3
          have HPUT : ∀ W, Bld W (w.heap.size + 2) bx G2 (.slice (some ⟨g2, 0, none⟩) os.length d2) → Calls Try.prog 59 #[.pointer (some ⟨bx, 0, none⟩), .int .i64 3, .int .i64 ((G.length : Int) + 1), .int .i64 vy] W fun e w' => e = .returned (.int .i64 ((G.length : Int) + 2)) ∧ Bld w' (w.heap.size + 2) bx G3 (.slice (some ⟨g2, 0, none⟩) os.length d2) ∧ Fr bx W w' ∧ Below (w.heap.size + 2) W w' := fun W h => by
            have := bgate_any G2 3 ((G.length : Int) + 1) vy (.slice (some ⟨g2, 0, none⟩) os.length d2) (w.heap.size + 2) bx W h (by have := L2.out; omega)
            rw [← E3.out, show (G2.length : Int) = (G.length : Int) + 2 by have := L2.out; omega] at this; exact this
          have HPT3 := Lib.hid HPUT
          clear HPUT
          have HN : Hid (rnds (fun h k => (h ++ [⟨3, at0 xs k, at0 ys k⟩, ⟨4, s0, h.length⟩, ⟨3, (h.length : Int) + 1, at0 ys k⟩], (h.length : Int) + 2)) gs (k + 1) = (G3, T ++ [((G.length : Int) + 2)])) := by show _ = _; rw [HST.out, E3.out, E2.out, E1.out, HVx.out, HVy.out]; simp [put1]
          go_wp2_with fail
          go_region_held3 (fun w' => w'.cell? ⟨blx, offx + k, none⟩ = some (.int .i64 vx) ∧ w'.cell? ⟨bly, offy + k, none⟩ = some (.int .i64 vy)) (first | go_keep) (((go_at_call 59; refine (HPT1.out _ (HBS.out.drew).b).mono ?_; rintro e w2 ⟨rfl, hB2, hF2, hL2⟩; have S1 := Lib.hid ((HBS.out.drew).on hB2 hF2 hL2); have z1 : wr.heap.size ≤ w2.heap.size := hL2.size; have hcx1 := S1.out.cell (HFx.out _ _ rfl) HCx.out; have hcy1 := S1.out.cell (HFy.out _ _ rfl) HCy.out; clear hB2 hF2 hL2)))
          all_goals go_wp2_with fail
          all_goals go_region_held3 (fun w' => w'.cell? ⟨blx, offx + k, none⟩ = some (.int .i64 vx) ∧ w'.cell? ⟨bly, offy + k, none⟩ = some (.int .i64 vy)) (first | go_keep) (first | (have _hq := S2.out; clear _hq; go_at_call 59; refine (HPT3.out _ S2.out.b).mono ?_; rintro e w4 ⟨rfl, hB4, hF4, hL4⟩; have S3 := Lib.hid (S2.out.on hB4 hF4 hL4); have z3 : w3.heap.size ≤ w4.heap.size := hL4.size; have hcx3 := S3.out.cell (HFx.out _ _ rfl) HCx.out; have hcy3 := S3.out.cell (HFy.out _ _ rfl) HCy.out; clear hB4 hF4 hL4) | (go_at_call 59; refine (HPT2.out _ (S1.out.drew).b).mono ?_; rintro e w3 ⟨rfl, hB3, hF3, hL3⟩; have S2 := Lib.hid ((S1.out.drew).on hB3 hF3 hL3); have z2 : w2.heap.size ≤ w3.heap.size := hL3.size; have hcx2 := S2.out.cell (HFx.out _ _ rfl) HCx.out; have hcy2 := S2.out.cell (HFy.out _ _ rfl) HCy.out; clear hB3 hF3 hL3) | (refine step_push _ rfl (.tmp 53) (.tmp 64) rfl w9.heap.size gt k ct T ((G.length : Int) + 2) w4.heap.size 1 (by rfl) (by rfl) (S3.out.o.alloc _) (by go_simp) (by omega) (by simp; omega) ?_; intro g6 d6 w8 ho6 hb6 hg6 hat6; have HP := Lib.hid (S3.out.push _ ho6 hb6 hg6 hat6); have hcx4 := HP.out.cell (HFx.out _ _ rfl) HCx.out; have hcy4 := HP.out.cell (HFy.out _ _ rfl) HCy.out; clear ho6 hb6 hg6 hat6))
          all_goals go_wp2_with fail
          all_goals go_roundw
          all_goals first
            | (show _ < _; first | (simp [intOf]; done) | (simp [intOf]; omega))
            | exact ⟨k + 1, d6, g6, _, _, by omega, by go_num, rfl, HN.out, HP.out⟩
        · obtain rfl : k = 4 := by omega
          have hp : muxP s0 xs ys gs = (G, T) := HSP.out
          rw [hp] at HE1 HE2
          clear hp
          have HWB10 := Lib.hid (HWB9.out.on HBS.out.b HBS.out.r HBS.out.l)
          have k10_0 := Fr.cell HBS.out.r (HWB9.out.b.frn_lo (by omega)) k9_0
          have k10_1 := Fr.cell HBS.out.r (HWB9.out.b.frn_lo (by omega)) k9_1
          have k10_2 := Fr.cell HBS.out.r (HWB9.out.b.frn_lo (by omega)) k9_2
          have k10_3 := Fr.cell HBS.out.r (HWB9.out.b.frn_lo (by omega)) k9_3
          have f10_0 := Fr.free HBS.out.r (HWB9.out.b.frn_lo (by omega)) f9_0
          have f10_1 := Fr.free HBS.out.r (HWB9.out.b.frn_lo (by omega)) f9_1
          clear k9_0 k9_1 k9_2 k9_3 f9_0 f9_1
          have HS10 := HBS
          obtain ⟨adR, capR, hcR, _, _⟩ := HWB10.out.b.row
          have hc1R := HWB10.out.b.snd
          have hlR := HWB10.out.l
          go_wp2_with fail
          refine bodyPost_ret (v := .tuple #[.agg #[.slice adR (G).length capR, .slice (some ⟨g2, 0, none⟩) os.length d2], .slice (some ⟨gt, 0, none⟩) 4 ct]) (by simp [results, Try.results24, go_sem, *]) rfl ?_
          rw [HE1.out, HE2.out]
          exact HWB10.out.postW hcR (by have := HS10.out.o.len; simpa using this.symm) (by have h1 := HS10.out.ge; have h2 := HWB9.out.b.le; exact HS10.out.o.later (by (repeat (first | with_reducible exact Kp.refl _ _ | (with_reducible refine Kp.rng ?_ (by assumption) ?_) | (with_reducible refine Kp.below ?_ (by assumption)) | (with_reducible refine Kp.grown ?_ (by assumption) ?_) | (with_reducible refine Kp.alloc ?_ _) | (with_reducible refine Kp.drew ?_) | (with_reducible refine Kp.drewN ?_ _) | (with_reducible refine Kp.setCell ?_ _ ?_))) <;> (first | omega | (simp; done) | (simp; omega)))) (fun y e => by obtain rfl := Option.some.inj e; exact ⟨HS10.out.f.2.2, by have h1 := HS10.out.ge; have h2 := HWB9.out.f.1; show gt ≠ g2; omega⟩) (by have := HWB9.out.b.le; omega) (fun b hb => (by (repeat (first | with_reducible exact Kp.refl _ _ | (with_reducible refine Kp.rng ?_ (by assumption) ?_) | (with_reducible refine Kp.below ?_ (by assumption)) | (with_reducible refine Kp.grown ?_ (by assumption) ?_) | (with_reducible refine Kp.alloc ?_ _) | (with_reducible refine Kp.drew ?_) | (with_reducible refine Kp.drewN ?_ _) | (with_reducible refine Kp.setCell ?_ _ ?_))) <;> (first | omega | (simp; done) | (simp; omega)))) (by (repeat (first | with_reducible exact Below.refl _ _ | (with_reducible refine bel_next ?_ ?_ (by assumption)) | (with_reducible refine Below.alloc ?_ ?_ _) | (with_reducible refine Below.drew ?_) | (with_reducible refine below_drewN ?_ _) | (with_reducible refine Below.setCell ?_ ?_ _))) <;> (first | omega | (simp; done) | (simp; omega)))
end Go.Proofs.Ytfcijloiebnloaa

/- WordE -/
namespace Go.Proofs.Ytfcijloiebnloaa
open Go.RowKit
set_option linter.unusedVariables false
set_option linter.unusedSimpArgs false

theorem own_cap {w : World} {lo e size g n cap : Nat} {cs : List Value} (h : Own w lo e size (some ⟨g, 0, none⟩) n cap cs) : n ≤ cap := by
  rcases h.2 with ⟨hv, _⟩ | ⟨g', cap', cur, hv, _, _, hn, _⟩
  · cases hv
  · cases hv; exact hn

set_option maxRecDepth 20000 in
set_option maxHeartbeats 8000000 in
theorem iWordEqual_any (gs : List Gt) (os : List Int) (a1 a2 : Option Addr) (c1 c2 : Nat) (w : World) (hm : gs.length ≤ 1048576) (hm2 : os.length ≤ 1048576) (hr : RdC w a1 (gtCells gs)) (hr2 : RdC w a2 (I64 os))  (xs : List Int) (nx : Nat) (ax : Option Addr) (cx : Nat) (hlx : xs.length = nx) (hmx : nx ≤ 1048576) (hrx : RdC w ax (I64 xs)) (ys : List Int) (ny : Nat) (ay : Option Addr) (cy : Nat) (hly : ys.length = ny) (hmy : ny ≤ 1048576) (hry : RdC w ay (I64 ys))  :
    Calls Try.prog 26 #[.agg #[.slice a1 gs.length c1, .slice a2 os.length c2], .slice ax nx cx, .slice ay ny cy] w fun e w' => PostI w w' e (wP (askB gs os xs ys) (equalP xs ys gs) gs (-1)).1 os (wP (askB gs os xs ys) (equalP xs ys gs) gs (-1)).2 := by
  have HR := Lib.hid hr
  have HR2 := Lib.hid hr2
  have HRx := Lib.hid hrx
  have HRy := Lib.hid hry
  clear hr hr2 hrx hry
  have nH : w.heap.size ≠ w.heap.size + 1 := by omega
  obtain ⟨PG, hPG⟩ : ∃ z, z = (wP (askB gs os xs ys) (equalP xs ys gs) gs (-1)).1 := ⟨_, rfl⟩
  obtain ⟨PW, hPW⟩ : ∃ z, z = (wP (askB gs os xs ys) (equalP xs ys gs) gs (-1)).2 := ⟨_, rfl⟩
  rw [← hPG, ← hPW]
  have HPG := Lib.hid hPG
  have HPW := Lib.hid hPW
  clear hPG hPW
  go_enter Try.func26, Try.ntmps26
  go_wp2_with fail
  refine (copyCircuit_any gs os _ _ _ _ _ hm hm2 (HR.out.below (by (repeat (first | with_reducible exact Below.refl _ _ | (with_reducible refine bel_next ?_ ?_ (by assumption)) | (with_reducible refine Below.alloc ?_ ?_ _) | (with_reducible refine Below.drew ?_) | (with_reducible refine below_drewN ?_ _) | (with_reducible refine Below.setCell ?_ ?_ _))) <;> (first | omega | (simp; done) | (simp; omega)))) (HR2.out.below (by (repeat (first | with_reducible exact Below.refl _ _ | (with_reducible refine bel_next ?_ ?_ (by assumption)) | (with_reducible refine Below.alloc ?_ ?_ _) | (with_reducible refine Below.drew ?_) | (with_reducible refine below_drewN ?_ _) | (with_reducible refine Below.setCell ?_ ?_ _))) <;> (first | omega | (simp; done) | (simp; omega))))).mono ?_
  rintro e w1 ⟨g1, d1, g2, d2, rfl, ho1, ho2, hne, hb1⟩
  have z1 := hb1.size
  (try simp at z1)
  have y1a : w.heap.size < w1.heap.size := (by omega)
  have y1b : w.heap.size + 1 < w1.heap.size := (by omega)
  have k1_0 := bel_keeps hb1 (b := w.heap.size) (o := 0) (v := .slice a1 gs.length c1) (by first | (go_simp; done) | assumption)
  have k1_1 := bel_keeps hb1 (b := w.heap.size) (o := 1) (v := .slice a2 os.length c2) (by first | (go_simp; done) | assumption)
  have k1_2 := bel_keeps hb1 (b := w.heap.size + 1) (o := 0) (v := .slice none 0 0) (by first | (go_simp; done) | assumption)
  have k1_3 := bel_keeps hb1 (b := w.heap.size + 1) (o := 1) (v := .slice none 0 0) (by first | (go_simp; done) | assumption)
  have f1_0 := bel_free hb1 (b := w.heap.size + 1) (o := 0) (by first | omega | (simp; done) | (simp; omega)) (by first | (go_simp; done) | assumption)
  have f1_1 := bel_free hb1 (b := w.heap.size + 1) (o := 1) (by first | omega | (simp; done) | (simp; omega)) (by first | (go_simp; done) | assumption)
  have hbw1 : Below w.heap.size w w1 := (by (repeat (first | with_reducible exact Below.refl _ _ | (with_reducible refine bel_next ?_ ?_ (by assumption)) | (with_reducible refine Below.alloc ?_ ?_ _) | (with_reducible refine Below.drew ?_) | (with_reducible refine below_drewN ?_ _) | (with_reducible refine Below.setCell ?_ ?_ _))) <;> (first | omega | (simp; done) | (simp; omega)))
  go_wp2_with fail
  obtain ⟨W, hW⟩ : ∃ W, W = w1.alloc (.cells #[.slice (some ⟨g1, 0, none⟩) gs.length d1, .slice (some ⟨g2, 0, none⟩) os.length d2] 72) := ⟨_, rfl⟩
  obtain ⟨bx, hbx⟩ : ∃ b, b = w1.heap.size := ⟨_, rfl⟩
  rw [← hW, ← hbx]
  have hWs : W.heap.size = bx + 1 := by rw [hW, hbx]; simp
  rw [← hWs]
  clear hWs
  have hbW : Below w1.heap.size w1 W := by rw [hW]; exact (Below.refl _ _).alloc (Nat.le_refl _) _
  have HWB := Lib.hid (WB.start (w0 := w) (w := W) (bx := bx) (ho1.lo (by simp)) (ho2.lo (by simp)) hne (hbw1.trans (hbW.mono (by omega))) hbW hbx (by rw [hW]; simp) (by rw [hW, hbx]; go_simp) (by rw [hW, hbx]; go_simp) (by rw [hW, hbx]; go_simp) (by rw [hW, hbx]; go_simp))
  have hbb : w.heap.size + 2 ≤ bx := by omega
  have zW := hbW.size
  (try simp at zW)
  have yWa : w.heap.size < W.heap.size := (by omega)
  have yWb : w.heap.size + 1 < W.heap.size := (by omega)
  have kW_0 := bel_keeps hbW (b := w.heap.size) (o := 0) (v := .slice a1 gs.length c1) (by first | (go_simp; done) | assumption)
  have kW_1 := bel_keeps hbW (b := w.heap.size) (o := 1) (v := .slice a2 os.length c2) (by first | (go_simp; done) | assumption)
  have kW_2 := bel_keeps hbW (b := w.heap.size + 1) (o := 0) (v := .slice none 0 0) (by first | (go_simp; done) | assumption)
  have kW_3 := bel_keeps hbW (b := w.heap.size + 1) (o := 1) (v := .slice none 0 0) (by first | (go_simp; done) | assumption)
  have fW_0 := bel_free hbW (b := w.heap.size + 1) (o := 0) (by first | omega | (simp; done) | (simp; omega)) (by first | (go_simp; done) | assumption)
  have fW_1 := bel_free hbW (b := w.heap.size + 1) (o := 1) (by first | omega | (simp; done) | (simp; omega)) (by first | (go_simp; done) | assumption)
  clear k1_0 k1_1 k1_2 k1_3 f1_0 f1_1
  clear hW hbx hbW ho1 ho2 hne hb1 hbw1
  have hlW := HWB.out.l
  refine (isWordOf2_any gs os _ _ _ _ _ hm hm2 (HR.out.below (hlW.trans (((Below.refl _ _).alloc (Nat.le_refl _) _).mono (by omega)))) (HR2.out.below (hlW.trans (((Below.refl _ _).alloc (Nat.le_refl _) _).mono (by omega)))) xs nx ax cx hlx hmx (HRx.out.below (hlW.trans (((Below.refl _ _).alloc (Nat.le_refl _) _).mono (by omega)))) ys ny ay cy hly hmy (HRy.out.below (hlW.trans (((Below.refl _ _).alloc (Nat.le_refl _) _).mono (by omega)))) W.heap.size 2 (by go_simp) (by go_simp)).mono ?_
  rintro e w9 ⟨rfl, hb0⟩
  have hb9 : Below W.heap.size W w9 := ((Below.refl _ _).alloc (Nat.le_refl _) _).trans (hb0.mono (by simp))
  clear hb0
  have HWB9 := Lib.hid (HWB.out.below hb9)
  have z9 := hb9.size
  (try simp at z9)
  have y9a : w.heap.size < w9.heap.size := (by omega)
  have y9b : w.heap.size + 1 < w9.heap.size := (by omega)
  have k9_0 := bel_keeps hb9 (b := w.heap.size) (o := 0) (v := .slice a1 gs.length c1) (by first | (go_simp; done) | assumption)
  have k9_1 := bel_keeps hb9 (b := w.heap.size) (o := 1) (v := .slice a2 os.length c2) (by first | (go_simp; done) | assumption)
  have k9_2 := bel_keeps hb9 (b := w.heap.size + 1) (o := 0) (v := .slice none 0 0) (by first | (go_simp; done) | assumption)
  have k9_3 := bel_keeps hb9 (b := w.heap.size + 1) (o := 1) (v := .slice none 0 0) (by first | (go_simp; done) | assumption)
  have f9_0 := bel_free hb9 (b := w.heap.size + 1) (o := 0) (by first | omega | (simp; done) | (simp; omega)) (by first | (go_simp; done) | assumption)
  have f9_1 := bel_free hb9 (b := w.heap.size + 1) (o := 1) (by first | omega | (simp; done) | (simp; omega)) (by first | (go_simp; done) | assumption)
  clear kW_0 kW_1 kW_2 kW_3 fW_0 fW_1
  clear hb9
  cases hq : askB gs os xs ys
  · have e1 : PG = gs := by rw [HPG.out, show (askB gs os xs ys) = false from hq]; rfl
    have e2 : PW = (-1) := by rw [HPW.out, show (askB gs os xs ys) = false from hq]; rfl
    have HE1 := Lib.hid e1
    have HE2 := Lib.hid e2
    clear e1 e2
    obtain ⟨adR, capR, hcR, _, _⟩ := HWB9.out.b.row
    have hc1R := HWB9.out.b.snd
    have hlR := HWB9.out.l
    go_wp2_with fail
    refine bodyPost_ret (v := .tuple #[.agg #[.slice adR gs.length capR, .slice (some ⟨g2, 0, none⟩) os.length d2], .int .i64 (-1)]) (by simp [results, Try.results26, go_sem, *]) rfl ?_
    rw [HE1.out, HE2.out]
    exact HWB9.out.postI hcR (fun b hb => (by (repeat (first | with_reducible exact Kp.refl _ _ | (with_reducible refine Kp.rng ?_ (by assumption) ?_) | (with_reducible refine Kp.below ?_ (by assumption)) | (with_reducible refine Kp.grown ?_ (by assumption) ?_) | (with_reducible refine Kp.alloc ?_ _) | (with_reducible refine Kp.drew ?_) | (with_reducible refine Kp.drewN ?_ _) | (with_reducible refine Kp.setCell ?_ _ ?_))) <;> (first | omega | (simp; done) | (simp; omega)))) (by (repeat (first | with_reducible exact Below.refl _ _ | (with_reducible refine bel_next ?_ ?_ (by assumption)) | (with_reducible refine Below.alloc ?_ ?_ _) | (with_reducible refine Below.drew ?_) | (with_reducible refine below_drewN ?_ _) | (with_reducible refine Below.setCell ?_ ?_ _))) <;> (first | omega | (simp; done) | (simp; omega)))
  · have e1 : PG = (equalP xs ys gs).1 := by rw [HPG.out, show (askB gs os xs ys) = true from hq]; rfl
    have e2 : PW = (equalP xs ys gs).2 := by rw [HPW.out, show (askB gs os xs ys) = true from hq]; rfl
    have HE1 := Lib.hid e1
    have HE2 := Lib.hid e2
    clear e1 e2
    obtain ⟨hx4, hy4, h59⟩ := askB_len hq
    rw [hlx] at hx4
    rw [hly] at hy4
    subst hx4; subst hy4
    have HB := Lib.hid HWB9.out.b
    have hBl := HWB9.out.b.le
    have HN2 := Lib.hid HWB9.out.f
    have HFx := Lib.hid (HWB9.out.fra HRx.out (by omega))
    have hrox := HRx.out.below HWB9.out.l
    clear HRx
    have HRx := Lib.hid hrox
    have HLx := Lib.hid hlx
    clear hrox hlx
    have HFy := Lib.hid (HWB9.out.fra HRy.out (by omega))
    have hroy := HRy.out.below HWB9.out.l
    clear HRy
    have HRy := Lib.hid hroy
    have HLy := Lib.hid hly
    clear hroy hly
    obtain ⟨W9, hW9⟩ : ∃ X, X = w9.alloc (.cells #[] 3) := ⟨_, rfl⟩
    have HS0 := Lib.hid (show Bs w9 W9 (w.heap.size + 2) bx gs (.slice (some ⟨g2, 0, none⟩) os.length d2) w9.heap.size 0 0 [] by rw [hW9]; exact Bs.start HWB9.out.b)
    have hBl := HWB9.out.b.le
    go_wp2_with fail
    rw [← hW9]
    clear hW9
    go_loopw [9, 31] (fun u i wr => ∃ (k ct gt : Nat) (G : List Gt) (T : List Int), k ≤ 4 ∧ i = .int .i64 k ∧ u = .slice (some ⟨gt, 0, none⟩) k ct ∧ rnds (fun h k => (h ++ [⟨3, at0 xs k, at0 ys k⟩, ⟨5, h.length, 0⟩], (h.length : Int) + 1)) gs k = (G, T) ∧ Bs w9 wr (w.heap.size + 2) bx G (.slice (some ⟨g2, 0, none⟩) os.length d2) gt k ct T) (fun _ i _ => 4 - (intOf i).toNat)
    case atStart => exact ⟨0, 0, _, _, _, Nat.zero_le _, rfl, rfl, rfl, HS0.out⟩
    case round =>
      obtain ⟨k, ct, gt, G, T, hk, rfl, rfl, hsp, hbs⟩ := hrel
      have hGl := rnds_le (f := fun h k => (h ++ [⟨3, at0 xs k, at0 ys k⟩, ⟨5, h.length, 0⟩], (h.length : Int) + 1)) (m := 2) (by intro h k; simp [put1]) gs k
      rw [hsp] at hGl
      simp only at hGl
      have HSP := Lib.hid hsp
      have HBS := Lib.hid hbs
      have zr := hbs.l.size
      have gtl := hbs.ge
      clear hsp hbs
      by_cases hlt : k < 4
      · have hk' : (k : Int) < 4 := by omega
        have HST := Lib.hid (rnds_succ (fun h k => (h ++ [⟨3, at0 xs k, at0 ys k⟩, ⟨5, h.length, 0⟩], (h.length : Int) + 1)) gs k HSP.out)
        obtain ⟨blx, offx, rfl, hbx, hcx⟩ := HRx.out.elem k (by rw [HLx.out]; exact hlt)
        obtain ⟨vx, hvx⟩ : ∃ z, z = at0 xs (k : Int) := ⟨_, rfl⟩
        rw [← hvx] at hcx
        have HVx := Lib.hid hvx
        have HCx := Lib.hid hcx
        have hcx0 := HBS.out.cell (HFx.out _ _ rfl) HCx.out
        clear hvx hcx
        obtain ⟨bly, offy, rfl, hby, hcy⟩ := HRy.out.elem k (by rw [HLy.out]; exact hlt)
        obtain ⟨vy, hvy⟩ : ∃ z, z = at0 ys (k : Int) := ⟨_, rfl⟩
        rw [← hvy] at hcy
        have HVy := Lib.hid hvy
        have HCy := Lib.hid hcy
        have hcy0 := HBS.out.cell (HFy.out _ _ rfl) HCy.out
        clear hvy hcy
        obtain ⟨G1, e1⟩ : ∃ X, X = G ++ [⟨3, vx, vy⟩] := ⟨_, rfl⟩
        have E1 := Lib.hid e1
        have L1 := Lib.hid (show G1.length = G.length + 1 by rw [e1]; simp)
        clear e1
        have HPUT : ∀ W, Bld W (w.heap.size + 2) bx G (.slice (some ⟨g2, 0, none⟩) os.length d2) → Calls Try.prog 59 #[.pointer (some ⟨bx, 0, none⟩), .int .i64 3, .int .i64 vx, .int .i64 vy] W fun e w' => e = .returned (.int .i64 (G.length : Int)) ∧ Bld w' (w.heap.size + 2) bx G1 (.slice (some ⟨g2, 0, none⟩) os.length d2) ∧ Fr bx W w' ∧ Below (w.heap.size + 2) W w' := fun W h => by
          have := bgate_any G 3 vx vy (.slice (some ⟨g2, 0, none⟩) os.length d2) (w.heap.size + 2) bx W h (by omega)
          rw [← E1.out] at this; exact this
        have HPT1 := Lib.hid HPUT
        clear HPUT
        obtain ⟨G2, e2⟩ : ∃ X, X = G1 ++ [⟨5, (G.length : Int), 0⟩] := ⟨_, rfl⟩
        have E2 := Lib.hid e2
        have L2 := Lib.hid (show G2.length = G.length + 2 by rw [e2]; simp [L1.out])
        clear e2
        have HPUT : ∀ W, Bld W (w.heap.size + 2) bx G1 (.slice (some ⟨g2, 0, none⟩) os.length d2) → Calls Try.prog 59 #[.pointer (some ⟨bx, 0, none⟩), .int .i64 5, .int .i64 (G.length : Int), .int .i64 0] W fun e w' => e = .returned (.int .i64 ((G.length : Int) + 1)) ∧ Bld w' (w.heap.size + 2) bx G2 (.slice (some ⟨g2, 0, none⟩) os.length d2) ∧ Fr bx W w' ∧ Below (w.heap.size + 2) W w' := fun W h => by
          have := bgate_any G1 5 (G.length : Int) 0 (.slice (some ⟨g2, 0, none⟩) os.length d2) (w.heap.size + 2) bx W h (by have := L1.out; omega)
          rw [← E2.out, show (G1.length : Int) = (G.length : Int) + 1 by have := L1.out; omega] at this; exact this
        have HPT2 := Lib.hid HPUT
        clear HPUT
        have HN : Hid (rnds (fun h k => (h ++ [⟨3, at0 xs k, at0 ys k⟩, ⟨5, h.length, 0⟩], (h.length : Int) + 1)) gs (k + 1) = (G2, T ++ [((G.length : Int) + 1)])) := by show _ = _; rw [HST.out, E2.out, E1.out, HVx.out, HVy.out]; simp [put1]
        go_wp2_with fail
        go_region_held3 (fun w' => w'.cell? ⟨blx, offx + k, none⟩ = some (.int .i64 vx) ∧ w'.cell? ⟨bly, offy + k, none⟩ = some (.int .i64 vy)) (first | go_keep) (first | (have _hq := S1.out; clear _hq; go_at_call 59; refine (HPT2.out _ S1.out.b).mono ?_; rintro e w3 ⟨rfl, hB3, hF3, hL3⟩; have S2 := Lib.hid (S1.out.on hB3 hF3 hL3); have z2 : w2.heap.size ≤ w3.heap.size := hL3.size; have hcx2 := S2.out.cell (HFx.out _ _ rfl) HCx.out; have hcy2 := S2.out.cell (HFy.out _ _ rfl) HCy.out; clear hB3 hF3 hL3) | (go_at_call 59; refine (HPT1.out _ (HBS.out.drew).b).mono ?_; rintro e w2 ⟨rfl, hB2, hF2, hL2⟩; have S1 := Lib.hid ((HBS.out.drew).on hB2 hF2 hL2); have z1 : wr.heap.size ≤ w2.heap.size := hL2.size; have hcx1 := S1.out.cell (HFx.out _ _ rfl) HCx.out; have hcy1 := S1.out.cell (HFy.out _ _ rfl) HCy.out; clear hB2 hF2 hL2) | (refine step_push _ rfl (.tmp 34) (.tmp 47) rfl w9.heap.size gt k ct T ((G.length : Int) + 1) w3.heap.size 1 (by rfl) (by rfl) (S2.out.o.alloc _) (by go_simp) (by omega) (by simp; omega) ?_; intro g6 d6 w8 ho6 hb6 hg6 hat6; have HP := Lib.hid (S2.out.push _ ho6 hb6 hg6 hat6); have hcx3 := HP.out.cell (HFx.out _ _ rfl) HCx.out; have hcy3 := HP.out.cell (HFy.out _ _ rfl) HCy.out; clear ho6 hb6 hg6 hat6))
        all_goals go_wp2_with fail
        all_goals go_roundw
        all_goals first
          | (show _ < _; first | (simp [intOf]; done) | (simp [intOf]; omega))
          | exact ⟨k + 1, d6, g6, _, _, by omega, by go_num, rfl, HN.out, HP.out⟩
      · obtain rfl : k = 4 := by omega
        have hTl : T.length = 4 := by have := rnds_len (fun h k => (h ++ [⟨3, at0 xs k, at0 ys k⟩, ⟨5, h.length, 0⟩], (h.length : Int) + 1)) gs 4; rw [HSP.out] at this; exact this
        have HTL := Lib.hid hTl
        have hGl8 : G.length ≤ 900008 := by omega
        obtain ⟨hc0, hf0⟩ := HBS.out.o.intE 0 (by omega)
        obtain ⟨q0, hq0⟩ : ∃ z, z = at0 T ((0 : Nat) : Int) := ⟨_, rfl⟩
        rw [← hq0] at hc0
        have HQ0 := Lib.hid hq0
        have hct := own_cap HBS.out.o
        clear hTl hf0 hq0 hGl
        go_wp2_with fail
        go_loopw [11, 56] (fun c i wr => ∃ (j : Nat) (G2 : List Gt) (cw : Int), j ≤ 3 ∧ i = .int .i64 (j : Int) ∧ c = .int .i64 cw ∧ andsP T G j = (G2, cw) ∧ Bs w9 wr (w.heap.size + 2) bx G2 (.slice (some ⟨g2, 0, none⟩) os.length d2) gt 4 ct T ∧ G2.length ≤ 900008 + j) (fun _ i _ => (3 - intOf i).toNat)
        case atStart => exact ⟨0, _, _, by omega, rfl, rfl, by show (G, at0 T ((0 : Nat) : Int)) = _; rw [← HQ0.out], HBS.out, by omega⟩
        case round =>
          obtain ⟨j, G2, cw, hj1, rfl, rfl, hap, hb2, hg2⟩ := hrel
          have HAP := Lib.hid hap
          have HB2 := Lib.hid hb2
          clear hap hb2
          by_cases hlt2 : j < 3
          · have hj' : (j : Int) < 3 := by omega
            obtain ⟨hcj, hfj⟩ := HB2.out.o.intE (j + 1) (by rw [HTL.out]; omega)
            obtain ⟨qj, hqj⟩ : ∃ z, z = at0 T ((j + 1 : Nat) : Int) := ⟨_, rfl⟩
            rw [← hqj] at hcj
            rw [Nat.add_comm j 1] at hcj
            have HQJ := Lib.hid hqj
            clear hqj hfj
            go_wp2_with fail
            refine (bgate_any G2 4 cw qj (.slice (some ⟨g2, 0, none⟩) os.length d2) (w.heap.size + 2) bx _ HB2.out.b (by omega)).mono ?_
            rintro e w5 ⟨rfl, hB5, hF5, hL5⟩
            have S5 := Lib.hid (HB2.out.on hB5 hF5 hL5)
            clear hB5 hF5 hL5
            have HN : Hid (andsP T G (j + 1) = (G2 ++ [⟨4, cw, qj⟩], (G2.length : Int))) := by
              show _ = _
              unfold andsP
              rw [HAP.out, HQJ.out]
            go_wp2_with fail
            go_roundw
            case rel => first | exact ⟨j + 1, _, _, by omega, by go_num, rfl, HN.out, S5.out, by simp; omega⟩ | ((repeat apply Exists.intro); exact ⟨⟨j + 1, _, _, by omega, by go_num, rfl, HN.out, S5.out, by simp; omega⟩, rfl⟩)
            case measure => first | (simp [intOf]; done) | (simp [intOf]; omega)
          · obtain rfl : j = 3 := by omega
            have HPP : Hid (equalP xs ys gs = (G2, cw)) := by
              show _ = _
              unfold equalP
              have h : eqsP xs ys gs = (G, T) := HSP.out
              rw [h]
              exact HAP.out
            have HWB10 := Lib.hid (HWB9.out.on HB2.out.b HB2.out.r HB2.out.l)
            have k10_0 := Fr.cell HB2.out.r (HWB9.out.b.frn_lo (by omega)) k9_0
            have k10_1 := Fr.cell HB2.out.r (HWB9.out.b.frn_lo (by omega)) k9_1
            have k10_2 := Fr.cell HB2.out.r (HWB9.out.b.frn_lo (by omega)) k9_2
            have k10_3 := Fr.cell HB2.out.r (HWB9.out.b.frn_lo (by omega)) k9_3
            have f10_0 := Fr.free HB2.out.r (HWB9.out.b.frn_lo (by omega)) f9_0
            have f10_1 := Fr.free HB2.out.r (HWB9.out.b.frn_lo (by omega)) f9_1
            clear k9_0 k9_1 k9_2 k9_3 f9_0 f9_1
            clear HWB9
            obtain ⟨adR, capR, hcR, _, _⟩ := HWB10.out.b.row
            have hc1R := HWB10.out.b.snd
            have hlR := HWB10.out.l
            go_wp2_with fail
            refine bodyPost_ret (v := .tuple #[.agg #[.slice adR G2.length capR, .slice (some ⟨g2, 0, none⟩) os.length d2], .int .i64 cw]) (by simp [results, Try.results26, go_sem, *]) rfl ?_
            rw [HE1.out, HE2.out]
            rw [HPP.out]
            exact HWB10.out.postI hcR (fun b hb => (by (repeat (first | with_reducible exact Kp.refl _ _ | (with_reducible refine Kp.rng ?_ (by assumption) ?_) | (with_reducible refine Kp.below ?_ (by assumption)) | (with_reducible refine Kp.grown ?_ (by assumption) ?_) | (with_reducible refine Kp.alloc ?_ _) | (with_reducible refine Kp.drew ?_) | (with_reducible refine Kp.drewN ?_ _) | (with_reducible refine Kp.setCell ?_ _ ?_))) <;> (first | omega | (simp; done) | (simp; omega)))) (by (repeat (first | with_reducible exact Below.refl _ _ | (with_reducible refine bel_next ?_ ?_ (by assumption)) | (with_reducible refine Below.alloc ?_ ?_ _) | (with_reducible refine Below.drew ?_) | (with_reducible refine below_drewN ?_ _) | (with_reducible refine Below.setCell ?_ ?_ _))) <;> (first | omega | (simp; done) | (simp; omega)))
end Go.Proofs.Ytfcijloiebnloaa

/- WordMI -/
namespace Go.Proofs.Ytfcijloiebnloaa
open Go.RowKit
set_option linter.unusedVariables false
set_option linter.unusedSimpArgs false

set_option maxRecDepth 20000 in
set_option maxHeartbeats 8000000 in
theorem iWordMul_any (gs : List Gt) (os : List Int) (a1 a2 : Option Addr) (c1 c2 : Nat) (w : World) (hm : gs.length ≤ 1048576) (hm2 : os.length ≤ 1048576) (hr : RdC w a1 (gtCells gs)) (hr2 : RdC w a2 (I64 os))  (xs : List Int) (nx : Nat) (ax : Option Addr) (cx : Nat) (hlx : xs.length = nx) (hmx : nx ≤ 1048576) (hrx : RdC w ax (I64 xs)) (ys : List Int) (ny : Nat) (ay : Option Addr) (cy : Nat) (hly : ys.length = ny) (hmy : ny ≤ 1048576) (hry : RdC w ay (I64 ys))  :
    Calls Try.prog 34 #[.agg #[.slice a1 gs.length c1, .slice a2 os.length c2], .slice ax nx cx, .slice ay ny cy] w fun e w' => PostW w w' e (wP (askB gs os xs ys) (mulP xs ys gs) gs []).1 os (wP (askB gs os xs ys) (mulP xs ys gs) gs []).2 := by
  have HR := Lib.hid hr
  have HR2 := Lib.hid hr2
  have HRx := Lib.hid hrx
  have HRy := Lib.hid hry
  clear hr hr2 hrx hry
  have nH : w.heap.size ≠ w.heap.size + 1 := by omega
  obtain ⟨PG, hPG⟩ : ∃ z, z = (wP (askB gs os xs ys) (mulP xs ys gs) gs []).1 := ⟨_, rfl⟩
  obtain ⟨PW, hPW⟩ : ∃ z, z = (wP (askB gs os xs ys) (mulP xs ys gs) gs []).2 := ⟨_, rfl⟩
  rw [← hPG, ← hPW]
  have HPG := Lib.hid hPG
  have HPW := Lib.hid hPW
  clear hPG hPW
  go_enter Try.func34, Try.ntmps34
  go_wp2_with fail
  refine (copyCircuit_any gs os _ _ _ _ _ hm hm2 (HR.out.below (by (repeat (first | with_reducible exact Below.refl _ _ | (with_reducible refine bel_next ?_ ?_ (by assumption)) | (with_reducible refine Below.alloc ?_ ?_ _) | (with_reducible refine Below.drew ?_) | (with_reducible refine below_drewN ?_ _) | (with_reducible refine Below.setCell ?_ ?_ _))) <;> (first | omega | (simp; done) | (simp; omega)))) (HR2.out.below (by (repeat (first | with_reducible exact Below.refl _ _ | (with_reducible refine bel_next ?_ ?_ (by assumption)) | (with_reducible refine Below.alloc ?_ ?_ _) | (with_reducible refine Below.drew ?_) | (with_reducible refine below_drewN ?_ _) | (with_reducible refine Below.setCell ?_ ?_ _))) <;> (first | omega | (simp; done) | (simp; omega))))).mono ?_
  rintro e w1 ⟨g1, d1, g2, d2, rfl, ho1, ho2, hne, hb1⟩
  have z1 := hb1.size
  (try simp at z1)
  have y1a : w.heap.size < w1.heap.size := (by omega)
  have y1b : w.heap.size + 1 < w1.heap.size := (by omega)
  have k1_0 := bel_keeps hb1 (b := w.heap.size) (o := 0) (v := .slice a1 gs.length c1) (by first | (go_simp; done) | assumption)
  have k1_1 := bel_keeps hb1 (b := w.heap.size) (o := 1) (v := .slice a2 os.length c2) (by first | (go_simp; done) | assumption)
  have k1_2 := bel_keeps hb1 (b := w.heap.size + 1) (o := 0) (v := .slice none 0 0) (by first | (go_simp; done) | assumption)
  have k1_3 := bel_keeps hb1 (b := w.heap.size + 1) (o := 1) (v := .slice none 0 0) (by first | (go_simp; done) | assumption)
  have f1_0 := bel_free hb1 (b := w.heap.size + 1) (o := 0) (by first | omega | (simp; done) | (simp; omega)) (by first | (go_simp; done) | assumption)
  have f1_1 := bel_free hb1 (b := w.heap.size + 1) (o := 1) (by first | omega | (simp; done) | (simp; omega)) (by first | (go_simp; done) | assumption)
  have hbw1 : Below w.heap.size w w1 := (by (repeat (first | with_reducible exact Below.refl _ _ | (with_reducible refine bel_next ?_ ?_ (by assumption)) | (with_reducible refine Below.alloc ?_ ?_ _) | (with_reducible refine Below.drew ?_) | (with_reducible refine below_drewN ?_ _) | (with_reducible refine Below.setCell ?_ ?_ _))) <;> (first | omega | (simp; done) | (simp; omega)))
  go_wp2_with fail
  obtain ⟨W, hW⟩ : ∃ W, W = w1.alloc (.cells #[.slice (some ⟨g1, 0, none⟩) gs.length d1, .slice (some ⟨g2, 0, none⟩) os.length d2] 72) := ⟨_, rfl⟩
  obtain ⟨bx, hbx⟩ : ∃ b, b = w1.heap.size := ⟨_, rfl⟩
  rw [← hW, ← hbx]
  have hWs : W.heap.size = bx + 1 := by rw [hW, hbx]; simp
  rw [← hWs]
  clear hWs
  have hbW : Below w1.heap.size w1 W := by rw [hW]; exact (Below.refl _ _).alloc (Nat.le_refl _) _
  have HWB := Lib.hid (WB.start (w0 := w) (w := W) (bx := bx) (ho1.lo (by simp)) (ho2.lo (by simp)) hne (hbw1.trans (hbW.mono (by omega))) hbW hbx (by rw [hW]; simp) (by rw [hW, hbx]; go_simp) (by rw [hW, hbx]; go_simp) (by rw [hW, hbx]; go_simp) (by rw [hW, hbx]; go_simp))
  have hbb : w.heap.size + 2 ≤ bx := by omega
  have zW := hbW.size
  (try simp at zW)
  have yWa : w.heap.size < W.heap.size := (by omega)
  have yWb : w.heap.size + 1 < W.heap.size := (by omega)
  have kW_0 := bel_keeps hbW (b := w.heap.size) (o := 0) (v := .slice a1 gs.length c1) (by first | (go_simp; done) | assumption)
  have kW_1 := bel_keeps hbW (b := w.heap.size) (o := 1) (v := .slice a2 os.length c2) (by first | (go_simp; done) | assumption)
  have kW_2 := bel_keeps hbW (b := w.heap.size + 1) (o := 0) (v := .slice none 0 0) (by first | (go_simp; done) | assumption)
  have kW_3 := bel_keeps hbW (b := w.heap.size + 1) (o := 1) (v := .slice none 0 0) (by first | (go_simp; done) | assumption)
  have fW_0 := bel_free hbW (b := w.heap.size + 1) (o := 0) (by first | omega | (simp; done) | (simp; omega)) (by first | (go_simp; done) | assumption)
  have fW_1 := bel_free hbW (b := w.heap.size + 1) (o := 1) (by first | omega | (simp; done) | (simp; omega)) (by first | (go_simp; done) | assumption)
  clear k1_0 k1_1 k1_2 k1_3 f1_0 f1_1
  clear hW hbx hbW ho1 ho2 hne hb1 hbw1
  have hlW := HWB.out.l
  refine (isWordOf2_any gs os _ _ _ _ _ hm hm2 (HR.out.below (hlW.trans (((Below.refl _ _).alloc (Nat.le_refl _) _).mono (by omega)))) (HR2.out.below (hlW.trans (((Below.refl _ _).alloc (Nat.le_refl _) _).mono (by omega)))) xs nx ax cx hlx hmx (HRx.out.below (hlW.trans (((Below.refl _ _).alloc (Nat.le_refl _) _).mono (by omega)))) ys ny ay cy hly hmy (HRy.out.below (hlW.trans (((Below.refl _ _).alloc (Nat.le_refl _) _).mono (by omega)))) W.heap.size 2 (by go_simp) (by go_simp)).mono ?_
  rintro e w9 ⟨rfl, hb0⟩
  have hb9 : Below W.heap.size W w9 := ((Below.refl _ _).alloc (Nat.le_refl _) _).trans (hb0.mono (by simp))
  clear hb0
  have HWB9 := Lib.hid (HWB.out.below hb9)
  have z9 := hb9.size
  (try simp at z9)
  have y9a : w.heap.size < w9.heap.size := (by omega)
  have y9b : w.heap.size + 1 < w9.heap.size := (by omega)
  have k9_0 := bel_keeps hb9 (b := w.heap.size) (o := 0) (v := .slice a1 gs.length c1) (by first | (go_simp; done) | assumption)
  have k9_1 := bel_keeps hb9 (b := w.heap.size) (o := 1) (v := .slice a2 os.length c2) (by first | (go_simp; done) | assumption)
  have k9_2 := bel_keeps hb9 (b := w.heap.size + 1) (o := 0) (v := .slice none 0 0) (by first | (go_simp; done) | assumption)
  have k9_3 := bel_keeps hb9 (b := w.heap.size + 1) (o := 1) (v := .slice none 0 0) (by first | (go_simp; done) | assumption)
  have f9_0 := bel_free hb9 (b := w.heap.size + 1) (o := 0) (by first | omega | (simp; done) | (simp; omega)) (by first | (go_simp; done) | assumption)
  have f9_1 := bel_free hb9 (b := w.heap.size + 1) (o := 1) (by first | omega | (simp; done) | (simp; omega)) (by first | (go_simp; done) | assumption)
  clear kW_0 kW_1 kW_2 kW_3 fW_0 fW_1
  clear hb9
  cases hq : askB gs os xs ys
  · have e1 : PG = gs := by rw [HPG.out, show (askB gs os xs ys) = false from hq]; rfl
    have e2 : PW = [] := by rw [HPW.out, show (askB gs os xs ys) = false from hq]; rfl
    have HE1 := Lib.hid e1
    have HE2 := Lib.hid e2
    clear e1 e2
    obtain ⟨adR, capR, hcR, _, _⟩ := HWB9.out.b.row
    have hc1R := HWB9.out.b.snd
    have hlR := HWB9.out.l
    go_wp2_with fail
    refine bodyPost_ret (v := .tuple #[.agg #[.slice adR gs.length capR, .slice (some ⟨g2, 0, none⟩) os.length d2], .slice none 0 0]) (by simp [results, Try.results34, go_sem, *]) rfl ?_
    rw [HE1.out, HE2.out]
    exact HWB9.out.postW hcR rfl (own_nil _ _ _ _) (fun y e => by cases e) (Nat.le_refl _) (fun b hb => (by (repeat (first | with_reducible exact Kp.refl _ _ | (with_reducible refine Kp.rng ?_ (by assumption) ?_) | (with_reducible refine Kp.below ?_ (by assumption)) | (with_reducible refine Kp.grown ?_ (by assumption) ?_) | (with_reducible refine Kp.alloc ?_ _) | (with_reducible refine Kp.drew ?_) | (with_reducible refine Kp.drewN ?_ _) | (with_reducible refine Kp.setCell ?_ _ ?_))) <;> (first | omega | (simp; done) | (simp; omega)))) (by (repeat (first | with_reducible exact Below.refl _ _ | (with_reducible refine bel_next ?_ ?_ (by assumption)) | (with_reducible refine Below.alloc ?_ ?_ _) | (with_reducible refine Below.drew ?_) | (with_reducible refine below_drewN ?_ _) | (with_reducible refine Below.setCell ?_ ?_ _))) <;> (first | omega | (simp; done) | (simp; omega) | (simp [World.setCell]; omega)))
  · have e1 : PG = (mulP xs ys gs).1 := by rw [HPG.out, show (askB gs os xs ys) = true from hq]; rfl
    have e2 : PW = (mulP xs ys gs).2 := by rw [HPW.out, show (askB gs os xs ys) = true from hq]; rfl
    have HE1 := Lib.hid e1
    have HE2 := Lib.hid e2
    clear e1 e2
    obtain ⟨hx4, hy4, h59⟩ := askB_len hq
    rw [hlx] at hx4
    rw [hly] at hy4
    subst hx4; subst hy4
    have HB := Lib.hid HWB9.out.b
    have hBl := HWB9.out.b.le
    have HN2 := Lib.hid HWB9.out.f
    have HFx := Lib.hid (HWB9.out.fra HRx.out (by omega))
    have hrox := HRx.out.below HWB9.out.l
    clear HRx
    have HRx := Lib.hid hrox
    have HLx := Lib.hid hlx
    clear hrox hlx
    have HFy := Lib.hid (HWB9.out.fra HRy.out (by omega))
    have hroy := HRy.out.below HWB9.out.l
    clear HRy
    have HRy := Lib.hid hroy
    have HLy := Lib.hid hly
    clear hroy hly
    obtain ⟨blx, offx, rfl, hbx, _⟩ := HRx.out.elem 0 (by rw [HLx.out]; omega)
    obtain ⟨bly, offy, rfl, hby, _⟩ := HRy.out.elem 0 (by rw [HLy.out]; omega)
    have HRx0 := HRx
    have HRy0 := HRy
    have HFx0 := HFx
    have HFy0 := HFy
    have hy0 : w9.cell? ⟨bly, offy, none⟩ = _ := HRy.out.elemAt 0 (by rw [HLy.out]; omega)
    obtain ⟨vy0, hvy0⟩ : ∃ z, z = at0 ys ((0 : Nat) : Int) := ⟨_, rfl⟩
    rw [← hvy0] at hy0
    have HVy0 := Lib.hid hvy0
    have HCy0 := Lib.hid hy0
    clear HRx HRy HFx HFy hvy0 hy0
    obtain ⟨W9, hW9⟩ : ∃ X, X = w9.alloc (.cells #[] 3) := ⟨_, rfl⟩
    have HS0 := Lib.hid (show Bs w9 W9 (w.heap.size + 2) bx gs (.slice (some ⟨g2, 0, none⟩) os.length d2) w9.heap.size 0 0 [] by rw [hW9]; exact Bs.start HWB9.out.b)
    have hBl := HWB9.out.b.le
    go_wp2_with fail
    rw [← hW9]
    clear hW9
    go_loopw [9, 32] (fun u i wr => ∃ (k ct gt : Nat) (G : List Gt) (T : List Int), k ≤ 4 ∧ i = .int .i64 k ∧ u = .slice (some ⟨gt, 0, none⟩) k ct ∧ rnds (fun h k => put1 h ⟨4, vy0, at0 xs k⟩) gs k = (G, T) ∧ Bs w9 wr (w.heap.size + 2) bx G (.slice (some ⟨g2, 0, none⟩) os.length d2) gt k ct T) (fun _ i _ => 4 - (intOf i).toNat)
    case atStart => exact ⟨0, 0, _, _, _, Nat.zero_le _, rfl, rfl, rfl, HS0.out⟩
    case round =>
      obtain ⟨k, ct0, gt0, G0, T0, hk, rfl, rfl, hsp, hbs⟩ := hrel
      have hGl := rnds_le (f := fun h k => put1 h ⟨4, vy0, at0 xs k⟩) (m := 1) (by intro h k; simp [put1]) gs k
      rw [hsp] at hGl
      simp only at hGl
      have HSP0 := Lib.hid hsp
      have HBS0 := Lib.hid hbs
      have zr0 := hbs.l.size
      have gtl0 := hbs.ge
      clear hsp hbs
      by_cases hlt : k < 4
      · have hk' : (k : Int) < 4 := by omega
        have hk4 : (k : Int) < 4 := by omega
        have HST := Lib.hid (rnds_succ (fun h k => put1 h ⟨4, vy0, at0 xs k⟩) gs k HSP0.out)
        have hcx := HRx0.out.elemAt k (by rw [HLx.out]; omega)
        obtain ⟨vx, hvx⟩ : ∃ z, z = at0 xs (k : Int) := ⟨_, rfl⟩
        rw [← hvx] at hcx
        have HVx := Lib.hid hvx
        have HCx := Lib.hid hcx
        have hcx0 := HBS0.out.cell (HFx0.out _ _ rfl) HCx.out
        have hcy0 := HBS0.out.cell (HFy0.out _ _ rfl) HCy0.out
        clear hvx hcx
        obtain ⟨G9, e9⟩ : ∃ X, X = G0 ++ [⟨4, vy0, vx⟩] := ⟨_, rfl⟩
        have E9 := Lib.hid e9
        clear e9
        have HN : Hid (rnds (fun h k => put1 h ⟨4, vy0, at0 xs k⟩) gs (k + 1) = (G9, T0 ++ [(G0.length : Int)])) := by show _ = _; rw [HST.out, E9.out, HVx.out]; simp [put1]
        have HPUT : ∀ W, Bld W (w.heap.size + 2) bx G0 (.slice (some ⟨g2, 0, none⟩) os.length d2) → Calls Try.prog 59 #[.pointer (some ⟨bx, 0, none⟩), .int .i64 4, .int .i64 vy0, .int .i64 vx] W fun e w' => e = .returned (.int .i64 (G0.length : Int)) ∧ Bld w' (w.heap.size + 2) bx G9 (.slice (some ⟨g2, 0, none⟩) os.length d2) ∧ Fr bx W w' ∧ Below (w.heap.size + 2) W w' := fun W h => by
          have := bgate_any G0 4 vy0 vx (.slice (some ⟨g2, 0, none⟩) os.length d2) (w.heap.size + 2) bx W h (by omega)
          rw [← E9.out] at this; exact this
        have HPT := Lib.hid HPUT
        clear HPUT
        go_wp2_with fail
        refine (HPT.out _ HBS0.out.b).mono ?_
        rintro e w2 ⟨rfl, hB2, hF2, hL2⟩
        have S1 := Lib.hid (HBS0.out.on hB2 hF2 hL2)
        have z1 : wr.heap.size ≤ w2.heap.size := hL2.size
        clear hB2 hF2 hL2
        go_wp2_with (refine wpList_push _ rfl (.tmp 36) (.tmp 43) rfl w9.heap.size gt0 k ct0 T0 (G0.length : Int) w2.heap.size 1 (by rfl) (by rfl) (S1.out.o.alloc _) (by go_simp) (by omega) (by simp; omega) ?_; intro g6 d6 w8 ho6 hb6 hg6 hat6)
        have HP := Lib.hid (S1.out.push _ ho6 hb6 hg6 hat6)
        clear ho6 hb6 hg6 hat6
        all_goals go_wp2_with fail
        all_goals go_roundw
        all_goals first
          | (show _ < _; first | (simp [intOf]; done) | (simp [intOf]; omega))
          | exact ⟨k + 1, d6, g6, _, _, by omega, by go_num, rfl, HN.out, HP.out⟩
          | ((repeat apply Exists.intro); exact ⟨⟨k + 1, d6, g6, _, _, by omega, by go_num, rfl, HN.out, HP.out⟩, rfl⟩)
      · obtain rfl : k = 4 := by omega
        obtain ⟨wr0, hwr⟩ : ∃ X, X = wr := ⟨_, rfl⟩
        subst hwr
        have HM0 : Hid (mulR xs ys gs 0 = (G0, T0)) := by show _ = _; rw [← HSP0.out, HVy0.out]; rfl
        have hlT : T0.length = 4 := by have := rnds_len (fun h k => put1 h ⟨4, vy0, at0 xs k⟩) gs 4; rw [HSP0.out] at this; exact this
        have HLT0 := Lib.hid hlT
        have HSt0 := HBS0
        have hG0 : G0.length ≤ 800004 := by omega
        obtain ⟨i0, hi, hz0, hz1, hz2⟩ := info_parts info_int
        have HI := Lib.hid (And.intro hi (And.intro hz0 (And.intro hz1 hz2)))
        clear hlT HBS0 HSP0 HS0 hGl HB hi hz0 hz1 hz2
        go_wp2_with fail
        refine wp_loop_rounds 4 ?_
        have HRx1 := Lib.hid (HSt0.out.r.rd HFx0.out HRx0.out)
        have HFx1 := Lib.hid (HSt0.out.r.fra HFx0.out)
        have HFy1 := Lib.hid (HSt0.out.r.fra HFy0.out)
        have hy := (HSt0.out.r.rd HFy0.out HRy0.out).elemAt 1 (by rw [HLy.out]; omega)
        obtain ⟨vy1, hvy⟩ : ∃ z, z = at0 ys ((1 : Nat) : Int) := ⟨_, rfl⟩
        rw [← hvy] at hy
        have HVy1 := Lib.hid hvy
        have HCy1 := Lib.hid hy
        clear hvy hy
        rw [rounds_succ]
        go_wp2_with (at_make; refine wpList_make_full _ rfl _ _ 23 rfl wr0.heap.size 3 i0 (.int .i64 0) 1 Try.underlying23 HI.out.1 HI.out.2.1 HI.out.2.2.1 .i64 .i64 _ _ 4 rfl rfl rfl rfl ?b2 ?b3 ?b4 ?_)
        case b2 => rw [HI.out.2.2.2]; omega
        case b3 => unfold maxLen; omega
        case b4 => simp
        intro W1 hown1 hgr1
        have e8 : (madeCells #[Value.int .i64 0] 4).toList = I64 (List.replicate 4 0) := made_ints 4
        have ho : Own W1 wr0.heap.size 3 1 (some ⟨wr0.heap.size, 0, none⟩) 4 4 (I64 (List.replicate 4 0)) := by rw [← e8]; exact hown1
        have hb1 : Below wr0.heap.size wr0 W1 := (Below.refl _ _).grown hgr1 (by simp) (by simp)
        have HS1 := Lib.hid (Bs.mk_list HSt0.out.b hb1 ho)
        clear hown1 hgr1 e8 ho hb1
        go_wp2_with fail
        go_loopw [14] (fun i wr => ∃ (k : Nat) (G : List Gt) (R P : List Int), k ≤ 3 ∧ i = .int .i64 k ∧ rnds (fun h k => put1 h ⟨4, vy1, at0 xs k⟩) G0 k = (G, R) ∧ P.length = 4 ∧ (P.drop 1).take k = R ∧ Bs wr0 wr (w.heap.size + 2) bx G (.slice (some ⟨g2, 0, none⟩) os.length d2) wr0.heap.size 4 4 P) (fun i _ => 3 - (intOf i).toNat)
        case atStart => exact ⟨0, _, _, _, Nat.zero_le _, rfl, rfl, by simp, rfl, HS1.out⟩
        case round =>
          obtain ⟨k, G1, R1, P1, hk, rfl, hsp, hpl, htk, hbs⟩ := hrel
          have hGl := rnds_le (f := fun h k => put1 h ⟨4, vy1, at0 xs k⟩) (m := 1) (by intro h k; simp [put1]) G0 k
          rw [hsp] at hGl
          simp only at hGl
          have HSP1 := Lib.hid hsp
          have HBS1 := Lib.hid hbs
          have HPL1 := Lib.hid hpl
          have HTK1 := Lib.hid htk
          have zr1 := hbs.l.size
          have gtl1 := hbs.ge
          clear hsp hbs hpl htk
          by_cases hlt : k < 3
          · have hk' : (k : Int) ≤ 2 := by omega
            have hk4 : (k : Int) < 4 := by omega
            have hki : (1 : Int) + (k : Int) < 4 := by omega
            have hkz : (0 : Int) ≤ (1 : Int) + (k : Int) := by omega
            have hkn : ((1 : Int) + (k : Int)).toNat = 1 + k := by omega
            have hkw : IntKind.i64.wrap ((1 : Int) + (k : Int)) = (1 : Int) + (k : Int) := wrap_i64_id (by omega) (by omega)
            have HST := Lib.hid (rnds_succ (fun h k => put1 h ⟨4, vy1, at0 xs k⟩) G0 k HSP1.out)
            have hcx := HRx1.out.elemAt k (by rw [HLx.out]; omega)
            obtain ⟨vx, hvx⟩ : ∃ z, z = at0 xs (k : Int) := ⟨_, rfl⟩
            rw [← hvx] at hcx
            have HVx := Lib.hid hvx
            have HCx := Lib.hid hcx
            have hcx0 := HBS1.out.cell (HFx1.out _ _ rfl) HCx.out
            have hcy0 := HBS1.out.cell (HFy1.out _ _ rfl) HCy1.out
            have nbx : blx ≠ wr0.heap.size := by have := (HFx1.out _ _ rfl).1; omega
            have nby : bly ≠ wr0.heap.size := by have := (HFy1.out _ _ rfl).1; omega
            obtain ⟨hp0, hf0⟩ := HBS1.out.o.intE (1 + k) (by rw [HPL1.out]; omega)
            clear hvx hcx
            obtain ⟨G9, e9⟩ : ∃ X, X = G1 ++ [⟨4, vy1, vx⟩] := ⟨_, rfl⟩
            have E9 := Lib.hid e9
            clear e9
            have HN : Hid (rnds (fun h k => put1 h ⟨4, vy1, at0 xs k⟩) G0 (k + 1) = (G9, R1 ++ [(G1.length : Int)])) := by show _ = _; rw [HST.out, E9.out, HVx.out]; simp [put1]
            have HPUT : ∀ W, Bld W (w.heap.size + 2) bx G1 (.slice (some ⟨g2, 0, none⟩) os.length d2) → Calls Try.prog 59 #[.pointer (some ⟨bx, 0, none⟩), .int .i64 4, .int .i64 vy1, .int .i64 vx] W fun e w' => e = .returned (.int .i64 (G1.length : Int)) ∧ Bld w' (w.heap.size + 2) bx G9 (.slice (some ⟨g2, 0, none⟩) os.length d2) ∧ Fr bx W w' ∧ Below (w.heap.size + 2) W w' := fun W h => by
              have := bgate_any G1 4 vy1 vx (.slice (some ⟨g2, 0, none⟩) os.length d2) (w.heap.size + 2) bx W h (by omega)
              rw [← E9.out] at this; exact this
            have HPT := Lib.hid HPUT
            clear HPUT
            go_wp2_with fail
            go_region_held3 (fun w' => w'.cell? ⟨blx, offx + k, none⟩ = some (.int .i64 vx) ∧ w'.cell? ⟨bly, offy + 1, none⟩ = some (.int .i64 vy1)) (first | go_keep)
              ((go_at_call 59; refine (HPT.out _ (HBS1.out.drew).b).mono ?_; rintro e w2 ⟨rfl, hB2, hF2, hL2⟩; have S1 := Lib.hid ((HBS1.out.drew).on hB2 hF2 hL2); have z1 : wr.heap.size ≤ w2.heap.size := hL2.size; have hcx1 := S1.out.cell (HFx1.out _ _ rfl) HCx.out; have hcy1 := S1.out.cell (HFy1.out _ _ rfl) HCy1.out; obtain ⟨hp1, hf1⟩ := S1.out.o.intE (1 + k) (by rw [HPL1.out]; omega); have HST2 := Lib.hid (S1.out.set (1 + k) (G1.length : Int)); have hcx2 := HST2.out.cell (HFx1.out _ _ rfl) HCx.out; have hcy2 := HST2.out.cell (HFy1.out _ _ rfl) HCy1.out; clear hB2 hF2 hL2))
            go_wp2_with fail
            go_roundw
            all_goals first
              | (show _ < _; first | (simp [intOf]; done) | (simp [intOf]; omega))
              | exact ⟨k + 1, _, _, _, by omega, by go_num, HN.out, by rw [List.length_set]; exact HPL1.out, fill_succ (by rw [HPL1.out]; omega) HTK1.out, HST2.out⟩
              | ((repeat apply Exists.intro); exact ⟨⟨k + 1, _, _, _, by omega, by go_num, HN.out, by rw [List.length_set]; exact HPL1.out, fill_succ (by rw [HPL1.out]; omega) HTK1.out, HST2.out⟩, rfl⟩)
          · obtain rfl : k = 3 := by omega
            obtain ⟨wr1, hwr⟩ : ∃ X, X = wr := ⟨_, rfl⟩
            subst hwr
            have hdr : P1.drop 1 = R1 := by
              have h := HTK1.out
              rwa [List.take_of_length_le (by rw [List.length_drop, HPL1.out]; omega)] at h
            have hRow : rowP (at0 ys ((0 : Nat) + 1 : Nat)) xs 3 G0 = (G1, P1.drop 1) := by rw [hdr, ← HSP1.out, HVy1.out]; rfl
            have HR1 := Lib.hid hRow
            have hown := HSt0.out.o.later (HBS1.out.r.kp HSt0.out.f)
            have HRD1 := Lib.hid hown.rd
            have hcap := own_cap' hown
            have HFR1 := Lib.hid (HBS1.out.r.frn HSt0.out.f)
            have hG1 : G1.length ≤ G0.length + 3 := by have := rnds_le (f := fun h k => put1 h ⟨4, vy1, at0 xs k⟩) (m := 1) (by intro h k; simp [put1]) G0 3; rw [HSP1.out] at this; simp only at this; omega
            clear hdr hRow hown
            go_wp2_with fail
            refine (bsum1 G1 0 (.slice (some ⟨g2, 0, none⟩) os.length d2) (w.heap.size + 2) bx _ HBS1.out.b (by omega) T0 (some ⟨gt0, 0, none⟩) ct0 HLT0.out HRD1.out (fun b off e => by cases e; exact HFR1.out) P1 (some ⟨wr0.heap.size, 0, none⟩) 4 HPL1.out HBS1.out.o.rd (fun b off e => by cases e; exact HBS1.out.f) hcap).mono ?_
            rintro e y1 ⟨gm1, cm1, rfl, hs⟩
            obtain ⟨GS1, TS1, hsum⟩ : ∃ a b, sumP (T0.drop 1) (P1.drop 1) 0 2 G1 = (a, b) := ⟨_, _, rfl⟩
            rw [hsum] at hs
            have hlen := sumP_len (T0.drop 1) (P1.drop 1) 0 2 G1
            rw [hsum] at hlen
            simp only at hlen
            have hSG : GS1.length ≤ G1.length + 20 := by omega
            obtain ⟨Tm1, hTm⟩ : ∃ X, X = T0.take 1 ++ TS1 := ⟨_, rfl⟩
            simp only [← hTm] at hs
            have hM : mulR xs ys gs 1 = (GS1, Tm1) := by rw [mulR_succ xs ys gs 0 HM0.out HR1.out]; rw [show sumP (T0.drop (0 + 1)) (P1.drop 1) 0 (2 - 0) G1 = (GS1, TS1) from hsum, hTm]
            have HM1 := Lib.hid hM
            have HLT1 : Hid (Tm1.length = 4) := by show _ = _; rw [hTm, List.length_append, List.length_take, HLT0.out, hlen.2]; rfl
            have HSt1 := Lib.hid ((HSt0.out.then HBS1.out).then hs)
            clear hsum hlen hs hTm hM hcap HBS1 HSP1 HRD1 HFR1 hk hlt HTK1
            go_wp2_with fail
            have HRx2 := Lib.hid (HSt1.out.r.rd HFx0.out HRx0.out)
            have HFx2 := Lib.hid (HSt1.out.r.fra HFx0.out)
            have HFy2 := Lib.hid (HSt1.out.r.fra HFy0.out)
            have hy := (HSt1.out.r.rd HFy0.out HRy0.out).elemAt 2 (by rw [HLy.out]; omega)
            obtain ⟨vy2, hvy⟩ : ∃ z, z = at0 ys ((2 : Nat) : Int) := ⟨_, rfl⟩
            rw [← hvy] at hy
            have HVy2 := Lib.hid hvy
            have HCy2 := Lib.hid hy
            clear hvy hy
            rw [rounds_succ]
            go_wp2_with (at_make; refine wpList_make_full _ rfl _ _ 23 rfl y1.heap.size 3 i0 (.int .i64 0) 1 Try.underlying23 HI.out.1 HI.out.2.1 HI.out.2.2.1 .i64 .i64 _ _ 4 rfl rfl rfl rfl ?b2 ?b3 ?b4 ?_)
            case b2 => rw [HI.out.2.2.2]; omega
            case b3 => unfold maxLen; omega
            case b4 => simp
            intro W2 hown1 hgr1
            have e8 : (madeCells #[Value.int .i64 0] 4).toList = I64 (List.replicate 4 0) := made_ints 4
            have ho : Own W2 y1.heap.size 3 1 (some ⟨y1.heap.size, 0, none⟩) 4 4 (I64 (List.replicate 4 0)) := by rw [← e8]; exact hown1
            have hb1 : Below y1.heap.size y1 W2 := (Below.refl _ _).grown hgr1 (by simp) (by simp)
            have HS2 := Lib.hid (Bs.mk_list HSt1.out.b hb1 ho)
            clear hown1 hgr1 e8 ho hb1
            go_wp2_with fail
            go_loopw [14] (fun i wr => ∃ (k : Nat) (G : List Gt) (R P : List Int), k ≤ 2 ∧ i = .int .i64 k ∧ rnds (fun h k => put1 h ⟨4, vy2, at0 xs k⟩) GS1 k = (G, R) ∧ P.length = 4 ∧ (P.drop 2).take k = R ∧ Bs y1 wr (w.heap.size + 2) bx G (.slice (some ⟨g2, 0, none⟩) os.length d2) y1.heap.size 4 4 P) (fun i _ => 2 - (intOf i).toNat)
            case atStart => exact ⟨0, _, _, _, Nat.zero_le _, rfl, rfl, by simp, rfl, HS2.out⟩
            case round =>
              obtain ⟨k, G2, R2, P2, hk, rfl, hsp, hpl, htk, hbs⟩ := hrel
              have hGl := rnds_le (f := fun h k => put1 h ⟨4, vy2, at0 xs k⟩) (m := 1) (by intro h k; simp [put1]) GS1 k
              rw [hsp] at hGl
              simp only at hGl
              have HSP2 := Lib.hid hsp
              have HBS2 := Lib.hid hbs
              have HPL2 := Lib.hid hpl
              have HTK2 := Lib.hid htk
              have zr2 := hbs.l.size
              have gtl2 := hbs.ge
              clear hsp hbs hpl htk
              by_cases hlt : k < 2
              · have hk' : (k : Int) ≤ 1 := by omega
                have hk4 : (k : Int) < 4 := by omega
                have hki : (2 : Int) + (k : Int) < 4 := by omega
                have hkz : (0 : Int) ≤ (2 : Int) + (k : Int) := by omega
                have hkn : ((2 : Int) + (k : Int)).toNat = 2 + k := by omega
                have hkw : IntKind.i64.wrap ((2 : Int) + (k : Int)) = (2 : Int) + (k : Int) := wrap_i64_id (by omega) (by omega)
                have HST := Lib.hid (rnds_succ (fun h k => put1 h ⟨4, vy2, at0 xs k⟩) GS1 k HSP2.out)
                have hcx := HRx2.out.elemAt k (by rw [HLx.out]; omega)
                obtain ⟨vx, hvx⟩ : ∃ z, z = at0 xs (k : Int) := ⟨_, rfl⟩
                rw [← hvx] at hcx
                have HVx := Lib.hid hvx
                have HCx := Lib.hid hcx
                have hcx0 := HBS2.out.cell (HFx2.out _ _ rfl) HCx.out
                have hcy0 := HBS2.out.cell (HFy2.out _ _ rfl) HCy2.out
                have nbx : blx ≠ y1.heap.size := by have := (HFx2.out _ _ rfl).1; omega
                have nby : bly ≠ y1.heap.size := by have := (HFy2.out _ _ rfl).1; omega
                obtain ⟨hp0, hf0⟩ := HBS2.out.o.intE (2 + k) (by rw [HPL2.out]; omega)
                clear hvx hcx
                obtain ⟨G9, e9⟩ : ∃ X, X = G2 ++ [⟨4, vy2, vx⟩] := ⟨_, rfl⟩
                have E9 := Lib.hid e9
                clear e9
                have HN : Hid (rnds (fun h k => put1 h ⟨4, vy2, at0 xs k⟩) GS1 (k + 1) = (G9, R2 ++ [(G2.length : Int)])) := by show _ = _; rw [HST.out, E9.out, HVx.out]; simp [put1]
                have HPUT : ∀ W, Bld W (w.heap.size + 2) bx G2 (.slice (some ⟨g2, 0, none⟩) os.length d2) → Calls Try.prog 59 #[.pointer (some ⟨bx, 0, none⟩), .int .i64 4, .int .i64 vy2, .int .i64 vx] W fun e w' => e = .returned (.int .i64 (G2.length : Int)) ∧ Bld w' (w.heap.size + 2) bx G9 (.slice (some ⟨g2, 0, none⟩) os.length d2) ∧ Fr bx W w' ∧ Below (w.heap.size + 2) W w' := fun W h => by
                  have := bgate_any G2 4 vy2 vx (.slice (some ⟨g2, 0, none⟩) os.length d2) (w.heap.size + 2) bx W h (by omega)
                  rw [← E9.out] at this; exact this
                have HPT := Lib.hid HPUT
                clear HPUT
                go_wp2_with fail
                go_region_held3 (fun w' => w'.cell? ⟨blx, offx + k, none⟩ = some (.int .i64 vx) ∧ w'.cell? ⟨bly, offy + 2, none⟩ = some (.int .i64 vy2)) (first | go_keep)
                  ((go_at_call 59; refine (HPT.out _ (HBS2.out.drew).b).mono ?_; rintro e w2 ⟨rfl, hB2, hF2, hL2⟩; have S1 := Lib.hid ((HBS2.out.drew).on hB2 hF2 hL2); have z1 : wr.heap.size ≤ w2.heap.size := hL2.size; have hcx1 := S1.out.cell (HFx2.out _ _ rfl) HCx.out; have hcy1 := S1.out.cell (HFy2.out _ _ rfl) HCy2.out; obtain ⟨hp1, hf1⟩ := S1.out.o.intE (2 + k) (by rw [HPL2.out]; omega); have HST2 := Lib.hid (S1.out.set (2 + k) (G2.length : Int)); have hcx2 := HST2.out.cell (HFx2.out _ _ rfl) HCx.out; have hcy2 := HST2.out.cell (HFy2.out _ _ rfl) HCy2.out; clear hB2 hF2 hL2))
                go_wp2_with fail
                go_roundw
                all_goals first
                  | (show _ < _; first | (simp [intOf]; done) | (simp [intOf]; omega))
                  | exact ⟨k + 1, _, _, _, by omega, by go_num, HN.out, by rw [List.length_set]; exact HPL2.out, fill_succ (by rw [HPL2.out]; omega) HTK2.out, HST2.out⟩
                  | ((repeat apply Exists.intro); exact ⟨⟨k + 1, _, _, _, by omega, by go_num, HN.out, by rw [List.length_set]; exact HPL2.out, fill_succ (by rw [HPL2.out]; omega) HTK2.out, HST2.out⟩, rfl⟩)
              · obtain rfl : k = 2 := by omega
                obtain ⟨wr2, hwr⟩ : ∃ X, X = wr := ⟨_, rfl⟩
                subst hwr
                have hdr : P2.drop 2 = R2 := by
                  have h := HTK2.out
                  rwa [List.take_of_length_le (by rw [List.length_drop, HPL2.out]; omega)] at h
                have hRow : rowP (at0 ys ((1 : Nat) + 1 : Nat)) xs 2 GS1 = (G2, P2.drop 2) := by rw [hdr, ← HSP2.out, HVy2.out]; rfl
                have HR2 := Lib.hid hRow
                have hown := HSt1.out.o.later (HBS2.out.r.kp HSt1.out.f)
                have HRD2 := Lib.hid hown.rd
                have hcap := own_cap' hown
                have HFR2 := Lib.hid (HBS2.out.r.frn HSt1.out.f)
                have hG2 : G2.length ≤ GS1.length + 2 := by have := rnds_le (f := fun h k => put1 h ⟨4, vy2, at0 xs k⟩) (m := 1) (by intro h k; simp [put1]) GS1 2; rw [HSP2.out] at this; simp only at this; omega
                clear hdr hRow hown
                go_wp2_with fail
                refine (bsum2 G2 0 (.slice (some ⟨g2, 0, none⟩) os.length d2) (w.heap.size + 2) bx _ HBS2.out.b (by omega) Tm1 (some ⟨gm1, 0, none⟩) cm1 HLT1.out HRD2.out (fun b off e => by cases e; exact HFR2.out) P2 (some ⟨y1.heap.size, 0, none⟩) 4 HPL2.out HBS2.out.o.rd (fun b off e => by cases e; exact HBS2.out.f) hcap).mono ?_
                rintro e y2 ⟨gm2, cm2, rfl, hs⟩
                obtain ⟨GS2, TS2, hsum⟩ : ∃ a b, sumP (Tm1.drop 2) (P2.drop 2) 0 1 G2 = (a, b) := ⟨_, _, rfl⟩
                rw [hsum] at hs
                have hlen := sumP_len (Tm1.drop 2) (P2.drop 2) 0 1 G2
                rw [hsum] at hlen
                simp only at hlen
                have hSG : GS2.length ≤ G2.length + 20 := by omega
                obtain ⟨Tm2, hTm⟩ : ∃ X, X = Tm1.take 2 ++ TS2 := ⟨_, rfl⟩
                simp only [← hTm] at hs
                have hM : mulR xs ys gs 2 = (GS2, Tm2) := by rw [mulR_succ xs ys gs 1 HM1.out HR2.out]; rw [show sumP (Tm1.drop (1 + 1)) (P2.drop 2) 0 (2 - 1) G2 = (GS2, TS2) from hsum, hTm]
                have HM2 := Lib.hid hM
                have HLT2 : Hid (Tm2.length = 4) := by show _ = _; rw [hTm, List.length_append, List.length_take, HLT1.out, hlen.2]; rfl
                have HSt2 := Lib.hid ((HSt1.out.then HBS2.out).then hs)
                clear hsum hlen hs hTm hM hcap HBS2 HSP2 HRD2 HFR2 hk hlt HTK2
                go_wp2_with fail
                have HRx3 := Lib.hid (HSt2.out.r.rd HFx0.out HRx0.out)
                have HFx3 := Lib.hid (HSt2.out.r.fra HFx0.out)
                have HFy3 := Lib.hid (HSt2.out.r.fra HFy0.out)
                have hy := (HSt2.out.r.rd HFy0.out HRy0.out).elemAt 3 (by rw [HLy.out]; omega)
                obtain ⟨vy3, hvy⟩ : ∃ z, z = at0 ys ((3 : Nat) : Int) := ⟨_, rfl⟩
                rw [← hvy] at hy
                have HVy3 := Lib.hid hvy
                have HCy3 := Lib.hid hy
                clear hvy hy
                rw [rounds_succ]
                go_wp2_with (at_make; refine wpList_make_full _ rfl _ _ 23 rfl y2.heap.size 3 i0 (.int .i64 0) 1 Try.underlying23 HI.out.1 HI.out.2.1 HI.out.2.2.1 .i64 .i64 _ _ 4 rfl rfl rfl rfl ?b2 ?b3 ?b4 ?_)
                case b2 => rw [HI.out.2.2.2]; omega
                case b3 => unfold maxLen; omega
                case b4 => simp
                intro W3 hown1 hgr1
                have e8 : (madeCells #[Value.int .i64 0] 4).toList = I64 (List.replicate 4 0) := made_ints 4
                have ho : Own W3 y2.heap.size 3 1 (some ⟨y2.heap.size, 0, none⟩) 4 4 (I64 (List.replicate 4 0)) := by rw [← e8]; exact hown1
                have hb1 : Below y2.heap.size y2 W3 := (Below.refl _ _).grown hgr1 (by simp) (by simp)
                have HS3 := Lib.hid (Bs.mk_list HSt2.out.b hb1 ho)
                clear hown1 hgr1 e8 ho hb1
                go_wp2_with fail
                go_loopw [14] (fun i wr => ∃ (k : Nat) (G : List Gt) (R P : List Int), k ≤ 1 ∧ i = .int .i64 k ∧ rnds (fun h k => put1 h ⟨4, vy3, at0 xs k⟩) GS2 k = (G, R) ∧ P.length = 4 ∧ (P.drop 3).take k = R ∧ Bs y2 wr (w.heap.size + 2) bx G (.slice (some ⟨g2, 0, none⟩) os.length d2) y2.heap.size 4 4 P) (fun i _ => 1 - (intOf i).toNat)
                case atStart => exact ⟨0, _, _, _, Nat.zero_le _, rfl, rfl, by simp, rfl, HS3.out⟩
                case round =>
                  obtain ⟨k, G3, R3, P3, hk, rfl, hsp, hpl, htk, hbs⟩ := hrel
                  have hGl := rnds_le (f := fun h k => put1 h ⟨4, vy3, at0 xs k⟩) (m := 1) (by intro h k; simp [put1]) GS2 k
                  rw [hsp] at hGl
                  simp only at hGl
                  have HSP3 := Lib.hid hsp
                  have HBS3 := Lib.hid hbs
                  have HPL3 := Lib.hid hpl
                  have HTK3 := Lib.hid htk
                  have zr3 := hbs.l.size
                  have gtl3 := hbs.ge
                  clear hsp hbs hpl htk
                  by_cases hlt : k < 1
                  · obtain rfl : k = 0 := by omega
                    have hw3 : IntKind.i64.wrap 3 = 3 := rfl
                    have HST := Lib.hid (rnds_succ (fun h k => put1 h ⟨4, vy3, at0 xs k⟩) GS2 0 HSP3.out)
                    have hcx : y2.cell? ⟨blx, offx, none⟩ = _ := HRx3.out.elemAt 0 (by rw [HLx.out]; omega)
                    obtain ⟨vx, hvx⟩ : ∃ z, z = at0 xs ((0 : Nat) : Int) := ⟨_, rfl⟩
                    rw [← hvx] at hcx
                    have HVx := Lib.hid hvx
                    have HCx := Lib.hid hcx
                    have hcx0 := HBS3.out.cell (HFx3.out _ _ rfl) HCx.out
                    have hcy0 := HBS3.out.cell (HFy3.out _ _ rfl) HCy3.out
                    have nbx : blx ≠ y2.heap.size := by have := (HFx3.out _ _ rfl).1; omega
                    have nby : bly ≠ y2.heap.size := by have := (HFy3.out _ _ rfl).1; omega
                    obtain ⟨hp0, hf0⟩ := HBS3.out.o.intE (3) (by rw [HPL3.out]; omega)
                    clear hvx hcx
                    obtain ⟨G9, e9⟩ : ∃ X, X = G3 ++ [⟨4, vy3, vx⟩] := ⟨_, rfl⟩
                    have E9 := Lib.hid e9
                    clear e9
                    have HN : Hid (rnds (fun h k => put1 h ⟨4, vy3, at0 xs k⟩) GS2 (0 + 1) = (G9, R3 ++ [(G3.length : Int)])) := by show _ = _; rw [HST.out, E9.out, HVx.out]; simp [put1]
                    have HPUT : ∀ W, Bld W (w.heap.size + 2) bx G3 (.slice (some ⟨g2, 0, none⟩) os.length d2) → Calls Try.prog 59 #[.pointer (some ⟨bx, 0, none⟩), .int .i64 4, .int .i64 vy3, .int .i64 vx] W fun e w' => e = .returned (.int .i64 (G3.length : Int)) ∧ Bld w' (w.heap.size + 2) bx G9 (.slice (some ⟨g2, 0, none⟩) os.length d2) ∧ Fr bx W w' ∧ Below (w.heap.size + 2) W w' := fun W h => by
                      have := bgate_any G3 4 vy3 vx (.slice (some ⟨g2, 0, none⟩) os.length d2) (w.heap.size + 2) bx W h (by omega)
                      rw [← E9.out] at this; exact this
                    have HPT := Lib.hid HPUT
                    clear HPUT
                    go_wp2_with fail
                    go_region_held3 (fun w' => w'.cell? ⟨blx, offx, none⟩ = some (.int .i64 vx) ∧ w'.cell? ⟨bly, offy + 3, none⟩ = some (.int .i64 vy3)) (first | go_keep)
                      ((go_at_call 59; refine (HPT.out _ (HBS3.out.drew).b).mono ?_; rintro e w2 ⟨rfl, hB2, hF2, hL2⟩; have S1 := Lib.hid ((HBS3.out.drew).on hB2 hF2 hL2); have z1 : wr.heap.size ≤ w2.heap.size := hL2.size; have hcx1 := S1.out.cell (HFx3.out _ _ rfl) HCx.out; have hcy1 := S1.out.cell (HFy3.out _ _ rfl) HCy3.out; obtain ⟨hp1, hf1⟩ := S1.out.o.intE (3) (by rw [HPL3.out]; omega); have HST2 := Lib.hid (S1.out.set (3) (G3.length : Int)); have hcx2 := HST2.out.cell (HFx3.out _ _ rfl) HCx.out; have hcy2 := HST2.out.cell (HFy3.out _ _ rfl) HCy3.out; clear hB2 hF2 hL2))
                    go_wp2_with fail
                    go_roundw
                    all_goals first
                      | (show _ < _; first | (simp [intOf]; done) | (simp [intOf]; omega))
                      | exact ⟨0 + 1, _, _, _, by omega, by go_num, HN.out, by rw [List.length_set]; exact HPL3.out, fill_succ (by rw [HPL3.out]; omega) HTK3.out, HST2.out⟩
                      | ((repeat apply Exists.intro); exact ⟨⟨0 + 1, _, _, _, by omega, by go_num, HN.out, by rw [List.length_set]; exact HPL3.out, fill_succ (by rw [HPL3.out]; omega) HTK3.out, HST2.out⟩, rfl⟩)
                  · obtain rfl : k = 1 := by omega
                    obtain ⟨wr3, hwr⟩ : ∃ X, X = wr := ⟨_, rfl⟩
                    subst hwr
                    have hdr : P3.drop 3 = R3 := by
                      have h := HTK3.out
                      rwa [List.take_of_length_le (by rw [List.length_drop, HPL3.out]; omega)] at h
                    have hRow : rowP (at0 ys ((2 : Nat) + 1 : Nat)) xs 1 GS2 = (G3, P3.drop 3) := by rw [hdr, ← HSP3.out, HVy3.out]; rfl
                    have HR3 := Lib.hid hRow
                    have hown := HSt2.out.o.later (HBS3.out.r.kp HSt2.out.f)
                    have HRD3 := Lib.hid hown.rd
                    have hcap := own_cap' hown
                    have HFR3 := Lib.hid (HBS3.out.r.frn HSt2.out.f)
                    have hG3 : G3.length ≤ GS2.length + 1 := by have := rnds_le (f := fun h k => put1 h ⟨4, vy3, at0 xs k⟩) (m := 1) (by intro h k; simp [put1]) GS2 1; rw [HSP3.out] at this; simp only at this; omega
                    clear hdr hRow hown
                    go_wp2_with fail
                    refine (bsum3 G3 0 (.slice (some ⟨g2, 0, none⟩) os.length d2) (w.heap.size + 2) bx _ HBS3.out.b (by omega) Tm2 (some ⟨gm2, 0, none⟩) cm2 HLT2.out HRD3.out (fun b off e => by cases e; exact HFR3.out) P3 (some ⟨y2.heap.size, 0, none⟩) 4 HPL3.out HBS3.out.o.rd (fun b off e => by cases e; exact HBS3.out.f) hcap).mono ?_
                    rintro e y3 ⟨gm3, cm3, rfl, hs⟩
                    obtain ⟨GS3, TS3, hsum⟩ : ∃ a b, sumP (Tm2.drop 3) (P3.drop 3) 0 0 G3 = (a, b) := ⟨_, _, rfl⟩
                    rw [hsum] at hs
                    have hlen := sumP_len (Tm2.drop 3) (P3.drop 3) 0 0 G3
                    rw [hsum] at hlen
                    simp only at hlen
                    have hSG : GS3.length ≤ G3.length + 20 := by omega
                    obtain ⟨Tm3, hTm⟩ : ∃ X, X = Tm2.take 3 ++ TS3 := ⟨_, rfl⟩
                    simp only [← hTm] at hs
                    have hM : mulR xs ys gs 3 = (GS3, Tm3) := by rw [mulR_succ xs ys gs 2 HM2.out HR3.out]; rw [show sumP (Tm2.drop (2 + 1)) (P3.drop 3) 0 (2 - 2) G3 = (GS3, TS3) from hsum, hTm]
                    have HM3 := Lib.hid hM
                    have HLT3 : Hid (Tm3.length = 4) := by show _ = _; rw [hTm, List.length_append, List.length_take, HLT2.out, hlen.2]; rfl
                    have HSt3 := Lib.hid ((HSt2.out.then HBS3.out).then hs)
                    clear hsum hlen hs hTm hM hcap HBS3 HSP3 HRD3 HFR3 hk hlt HTK3
                    go_wp2_with fail
                    rw [rounds_succ]
                    have hp : mulP xs ys gs = (GS3, Tm3) := HM3.out
                    rw [hp] at HE1 HE2
                    clear hp
                    have HWB10 := Lib.hid (HWB9.out.on HSt3.out.b HSt3.out.r HSt3.out.l)
                    have k10_0 := Fr.cell HSt3.out.r (HWB9.out.b.frn_lo (by omega)) k9_0
                    have k10_1 := Fr.cell HSt3.out.r (HWB9.out.b.frn_lo (by omega)) k9_1
                    have k10_2 := Fr.cell HSt3.out.r (HWB9.out.b.frn_lo (by omega)) k9_2
                    have k10_3 := Fr.cell HSt3.out.r (HWB9.out.b.frn_lo (by omega)) k9_3
                    have f10_0 := Fr.free HSt3.out.r (HWB9.out.b.frn_lo (by omega)) f9_0
                    have f10_1 := Fr.free HSt3.out.r (HWB9.out.b.frn_lo (by omega)) f9_1
                    clear k9_0 k9_1 k9_2 k9_3 f9_0 f9_1
                    have HS10 := HSt3
                    obtain ⟨adR, capR, hcR, _, _⟩ := HWB10.out.b.row
                    have hc1R := HWB10.out.b.snd
                    have hlR := HWB10.out.l
                    go_wp2_with fail
                    refine bodyPost_ret (v := .tuple #[.agg #[.slice adR (GS3).length capR, .slice (some ⟨g2, 0, none⟩) os.length d2], .slice (some ⟨gm3, 0, none⟩) 4 cm3]) (by simp [results, Try.results34, go_sem, *]) rfl ?_
                    rw [HE1.out, HE2.out]
                    exact HWB10.out.postW hcR (by have := HS10.out.o.len; simpa using this.symm) (by have h1 := HS10.out.ge; have h2 := HWB9.out.b.le; exact HS10.out.o.later (by (repeat (first | with_reducible exact Kp.refl _ _ | (with_reducible refine Kp.rng ?_ (by assumption) ?_) | (with_reducible refine Kp.below ?_ (by assumption)) | (with_reducible refine Kp.grown ?_ (by assumption) ?_) | (with_reducible refine Kp.alloc ?_ _) | (with_reducible refine Kp.drew ?_) | (with_reducible refine Kp.drewN ?_ _) | (with_reducible refine Kp.setCell ?_ _ ?_))) <;> (first | omega | (simp; done) | (simp; omega)))) (fun y e => by obtain rfl := Option.some.inj e; exact ⟨HS10.out.f.2.2, by have h1 := HS10.out.ge; have h2 := HWB9.out.f.1; show gm3 ≠ g2; omega⟩) (by have := HWB9.out.b.le; omega) (fun b hb => (by (repeat (first | with_reducible exact Kp.refl _ _ | (with_reducible refine Kp.rng ?_ (by assumption) ?_) | (with_reducible refine Kp.below ?_ (by assumption)) | (with_reducible refine Kp.grown ?_ (by assumption) ?_) | (with_reducible refine Kp.alloc ?_ _) | (with_reducible refine Kp.drew ?_) | (with_reducible refine Kp.drewN ?_ _) | (with_reducible refine Kp.setCell ?_ _ ?_))) <;> (first | omega | (simp; done) | (simp; omega)))) (by (repeat (first | with_reducible exact Below.refl _ _ | (with_reducible refine bel_next ?_ ?_ (by assumption)) | (with_reducible refine Below.alloc ?_ ?_ _) | (with_reducible refine Below.drew ?_) | (with_reducible refine below_drewN ?_ _) | (with_reducible refine Below.setCell ?_ ?_ _))) <;> (first | omega | (simp; done) | (simp; omega)))
end Go.Proofs.Ytfcijloiebnloaa

/- CmpC -/
namespace Go.Proofs.Ytfcijloiebnloaa
open Go.RowKit
set_option linter.unusedVariables false
set_option linter.unusedSimpArgs false

theorem cell_stc {w : World} {a : Addr} {x : Value} {b off : Nat} {v : Value} (h : w.cell? ⟨b, off, none⟩ = some v) (hne : b ≠ a.block) : (w.setCell a x).cell? ⟨b, off, none⟩ = some v :=
  (World.cell?_of_block (w := w) (a := ⟨b, off, none⟩) (Below.heap_setCell _ _ _ _ hne)).trans h
theorem wP_true {A : Type} (p : List Gt × A) (gs : List Gt) (z : A) : wP true p gs z = p := rfl
theorem wrs_all {gs : List Gt} {xs : List Int} (h : Wrs gs 4 xs) : allB xs 0 ((gs.length : Int) - 1) = true := allB_iff.2 fun x hx => by
  obtain ⟨j, hj, e⟩ := List.mem_iff_getElem.1 hx
  have hl := h.1
  have h1 := h.2 j (by omega)
  rw [at0_nat] at h1
  simp [List.getD, hj, e] at h1
  omega
theorem room_of {gs : List Gt} (hgt : gtsOk 0 gs = true) (h59 : gs.length ≤ 5900) : roomB gs [] = true := by
  simp [roomB, circOk, hgt, allB]; omega
theorem ask_of {gs : List Gt} {xs ys : List Int} (hgt : gtsOk 0 gs = true) (h59 : gs.length ≤ 5900) (hx : Wrs gs 4 xs) (hy : Wrs gs 4 ys) : askB gs [] xs ys = true := by
  unfold askB wordB
  rw [room_of hgt h59, wrs_all hx, wrs_all hy, hx.1, hy.1]; rfl


set_option maxRecDepth 20000 in
set_option maxHeartbeats 4000000 in
theorem compiled1 (dst sa sb sc sn : Int) (hs : StC ⟨1, dst, sa, sb, sc, sn⟩) (gs : List Gt) (hgt : gtsOk 0 gs = true) (h59 : gs.length ≤ 5900) (a1 a2 : Option Addr) (c1 c2 : Nat) (w : World) (hr : RdC w a1 (gtCells gs)) (rs : List RV) (hl : rs.length = 8) (ra : Option Addr) (rc : Nat) (hra : RdC w ra (rvCells rs)) (hok : ∀ r ∈ rs, RvOk w (fun _ => True) r) (hwr : ∀ i : Nat, i < 8 → Wrs gs 4 (rgA (regsOf rs) i)) (zero : Int) :
    Calls Try.prog 78 #[.agg #[.slice a1 gs.length c1, .slice a2 0 c2], .agg #[.int .i64 1, .int .i64 dst, .int .i64 sa, .int .i64 sb, .int .i64 sc, .int .i64 sn], .slice ra 8 rc, .int .i64 zero] w fun e w' => PostW w w' e (stG (regsOf rs) zero ⟨1, dst, sa, sb, sc, sn⟩ gs).1 [] (stG (regsOf rs) zero ⟨1, dst, sa, sb, sc, sn⟩ gs).2 := by
  have ha := hs.a
  have hb := hs.b
  have hc := hs.c
  have hk := hs.k
  have hi := hs.i
  clear hs
  simp only at ha hb hc hk hi
  obtain ⟨na, rfl⟩ := Int.eq_ofNat_of_zero_le ha.1
  obtain ⟨nb, rfl⟩ := Int.eq_ofNat_of_zero_le hb.1
  obtain ⟨nc, rfl⟩ := Int.eq_ofNat_of_zero_le hc.1
  obtain ⟨bl, off, ax, cx, xs, rfl, hbl, ka, HX, HLx, hcx, hrx, _⟩ := hra.rv hok na (by omega)
  obtain ⟨bl2, off2, ay, cy, ys, e2, _, kb, HY, HLy, hcy, hry, _⟩ := hra.rv hok nb (by omega)
  cases e2
  obtain ⟨bl3, off3, az, cz, zs, e3, _, kc, HZ, HLz, hcz, hrz, _⟩ := hra.rv hok nc (by omega)
  cases e3
  have hwx := hwr na (by omega)
  have hwy := hwr nb (by omega)
  have hwz := hwr nc (by omega)
  rw [HX] at hwx
  rw [HY] at hwy
  rw [HZ] at hwz
  have hna : (na : Int) < 8 := by omega
  have hnb : (nb : Int) < 8 := by omega
  have hnc : (nc : Int) < 8 := by omega
  have h8a : (na : Int).tmod 8 = na := Int.tmod_eq_of_lt (by omega) (by omega)
  have h8b : (nb : Int).tmod 8 = nb := Int.tmod_eq_of_lt (by omega) (by omega)
  have nw0 : bl ≠ w.heap.size := by omega
  have nw1 : bl ≠ w.heap.size + 1 := by omega
  have nw2 : bl ≠ w.heap.size + 1 + 1 := by omega
  have nw3 : bl ≠ w.heap.size + 1 + 1 := by omega
  have HR := Lib.hid hr
  have HRX := Lib.hid hrx
  have HRY := Lib.hid hry
  have HRZ := Lib.hid hrz
  have HLX := Lib.hid HLx
  have HLY := Lib.hid HLy
  have HLZ := Lib.hid HLz
  have HWX := Lib.hid hwx
  have HWY := Lib.hid hwy
  have HWZ := Lib.hid hwz
  have HGT := Lib.hid hgt
  have HXX := Lib.hid HX
  have HYY := Lib.hid HY
  have HZZ := Lib.hid HZ
  clear hra hr hrx hry hrz HLx HLy HLz HX HY HZ hok hwr hwx hwy hwz hgt
  have HASK : Hid ((roomB gs [] && inB sn 0 15) = true) := by show _ = _; rw [room_of HGT.out h59, inB_iff.2 (hk trivial)]; rfl
  have HN2 : Hid (RdC w a2 (I64 [])) := .inl rfl
  have hgl : gs.length ≤ 1048576 := by omega
  have ka1 : (((w.alloc (.cells #[.slice a1 gs.length c1, .slice a2 0 c2] 29)).alloc (.cells #[.int .i64 1, .int .i64 dst, .int .i64 na, .int .i64 nb, .int .i64 nc, .int .i64 sn] 90)).alloc (.cells #[.slice none 0 0, .slice none 0 0] 29)).cell? ⟨bl, off + na, none⟩ = some (.slice ax 4 cx) := bel_keeps ((((Below.refl _ _).alloc (Nat.le_refl _) _).alloc (by simp) _).alloc (by simp; omega) _) ka
  have kb1 : (((w.alloc (.cells #[.slice a1 gs.length c1, .slice a2 0 c2] 29)).alloc (.cells #[.int .i64 1, .int .i64 dst, .int .i64 na, .int .i64 nb, .int .i64 nc, .int .i64 sn] 90)).alloc (.cells #[.slice none 0 0, .slice none 0 0] 29)).cell? ⟨bl, off + nb, none⟩ = some (.slice ay 4 cy) := bel_keeps ((((Below.refl _ _).alloc (Nat.le_refl _) _).alloc (by simp) _).alloc (by simp; omega) _) kb
  go_enter Try.func78, Try.ntmps78
  go_wp2_with fail
  obtain ⟨W, hW⟩ : ∃ X, X = ((w.alloc (.cells #[.slice a1 gs.length c1, .slice a2 0 c2] 29)).alloc (.cells #[.int .i64 1, .int .i64 dst, .int .i64 na, .int .i64 nb, .int .i64 nc, .int .i64 sn] 90)).alloc (.cells #[.slice none 0 0, .slice none 0 0] 29) := ⟨_, rfl⟩
  have hbW : Below w.heap.size w W := by rw [hW]; exact (((Below.refl _ _).alloc (Nat.le_refl _) _).alloc (by simp) _).alloc (by simp; omega) _
  have zW : w.heap.size + 3 ≤ W.heap.size := by rw [hW]; simp
  have k0 : W.cell? ⟨w.heap.size, 0, none⟩ = some (.slice a1 gs.length c1) := by rw [hW]; go_simp
  have k1 : W.cell? ⟨w.heap.size, 1, none⟩ = some (.slice a2 0 c2) := by rw [hW]; go_simp
  have k2 : W.cell? ⟨w.heap.size + 1, 0, none⟩ = some (.int .i64 1) := by rw [hW]; go_simp
  have k3 : W.cell? ⟨w.heap.size + 1, 1, none⟩ = some (.int .i64 dst) := by rw [hW]; go_simp
  have k4 : W.cell? ⟨w.heap.size + 1, 2, none⟩ = some (.int .i64 na) := by rw [hW]; go_simp
  have k5 : W.cell? ⟨w.heap.size + 1, 3, none⟩ = some (.int .i64 nb) := by rw [hW]; go_simp
  have k6 : W.cell? ⟨w.heap.size + 1, 4, none⟩ = some (.int .i64 nc) := by rw [hW]; go_simp
  have k7 : W.cell? ⟨w.heap.size + 1, 5, none⟩ = some (.int .i64 sn) := by rw [hW]; go_simp
  have k8 : W.cell? ⟨w.heap.size + 1 + 1, 0, none⟩ = some (.slice none 0 0) := by rw [hW]; go_simp
  have k9 : W.cell? ⟨w.heap.size + 1 + 1, 1, none⟩ = some (.slice none 0 0) := by rw [hW]; go_simp
  have f0 : W.frozen? ⟨w.heap.size + 1 + 1, 0, none⟩ = false := by rw [hW]; go_simp
  have f1 : W.frozen? ⟨w.heap.size + 1 + 1, 1, none⟩ = false := by rw [hW]; go_simp
  have kR : W.cell? ⟨bl, off + nc, none⟩ = some (.slice az 4 cz) := bel_keeps hbW kc
  rw [← hW]
  have HBW := Lib.hid hbW
  clear hW kc hbW ka kb ka1 kb1
  obtain ⟨PG, hPG⟩ : ∃ x, x = (constP sn gs).1 := ⟨_, rfl⟩
  obtain ⟨PT, hPT⟩ : ∃ x, x = (constP sn gs).2 := ⟨_, rfl⟩
  have HPG := Lib.hid hPG
  have HPT := Lib.hid hPT
  clear hPG hPT
  have hcc := iWordConst_any gs [] a1 a2 c1 c2 W hgl (by simp) (HR.out.below HBW.out) (HN2.out.below HBW.out) sn
  rw [HASK.out, wP_true, ← HPG.out, ← HPT.out] at hcc
  refine hcc.mono ?_
  clear hcc
  rintro e w2 ⟨b1, d1, b2, d2, g, c', rfl, h1, h2, hn1, h3, hn2, hn3, hb⟩
  have z2 := hb.size
  have qq0 := bel_keeps hb k0
  have qq1 := bel_keeps hb k1
  have qq2 := bel_keeps hb k2
  have qq3 := bel_keeps hb k3
  have qq4 := bel_keeps hb k4
  have qq5 := bel_keeps hb k5
  have qq6 := bel_keeps hb k6
  have qq7 := bel_keeps hb k7
  have qq8 := bel_keeps hb k8
  have qq9 := bel_keeps hb k9
  have g0 := bel_free hb (b := w.heap.size + 1 + 1) (o := 0) (by omega) f0
  have g1 := bel_free hb (b := w.heap.size + 1 + 1) (o := 1) (by omega) f1
  clear k0 k1 k2 k3 k4 k5 k6 k7 k8 k9 f0 f1 kR
  go_wp2_with fail
  refine bodyPost_ret (v := .tuple #[.agg #[.slice b1 PG.length d1, .slice b2 0 d2], .slice g PT.length c']) (by simp [results, Try.results78, go_sem, *]) rfl ?_
  have e1 : stG (regsOf rs) zero ⟨1, dst, na, nb, nc, sn⟩ gs = constP sn gs := by simp only [stG, HXX.out, HYY.out, HZZ.out]; rfl
  rw [e1, ← HPG.out, ← HPT.out]
  have hbw := HBW.out
  exact ⟨b1, d1, b2, d2, g, c', rfl, ((h1.lo (by first | omega | (simp; omega))).keep fun x hx => by have hq := h1.blk x hx; (try simp at hq); exact (by (repeat (first | with_reducible exact Kp.refl _ _ | (with_reducible refine Kp.rng ?_ (by assumption) ?_) | (with_reducible refine Kp.below ?_ (by assumption)) | (with_reducible refine Kp.grown ?_ (by assumption) ?_) | (with_reducible refine Kp.alloc ?_ _) | (with_reducible refine Kp.drew ?_) | (with_reducible refine Kp.drewN ?_ _) | (with_reducible refine Kp.setCell ?_ _ ?_))) <;> (first | omega | (simp; done) | (simp; omega)))), ((h2.lo (by first | omega | (simp; omega))).keep fun x hx => by have hq := h2.blk x hx; (try simp at hq); exact (by (repeat (first | with_reducible exact Kp.refl _ _ | (with_reducible refine Kp.rng ?_ (by assumption) ?_) | (with_reducible refine Kp.below ?_ (by assumption)) | (with_reducible refine Kp.grown ?_ (by assumption) ?_) | (with_reducible refine Kp.alloc ?_ _) | (with_reducible refine Kp.drew ?_) | (with_reducible refine Kp.drewN ?_ _) | (with_reducible refine Kp.setCell ?_ _ ?_))) <;> (first | omega | (simp; done) | (simp; omega)))), hn1, ((h3.lo (by first | omega | (simp; omega))).keep fun x hx => by have hq := h3.blk x hx; (try simp at hq); exact (by (repeat (first | with_reducible exact Kp.refl _ _ | (with_reducible refine Kp.rng ?_ (by assumption) ?_) | (with_reducible refine Kp.below ?_ (by assumption)) | (with_reducible refine Kp.grown ?_ (by assumption) ?_) | (with_reducible refine Kp.alloc ?_ _) | (with_reducible refine Kp.drew ?_) | (with_reducible refine Kp.drewN ?_ _) | (with_reducible refine Kp.setCell ?_ _ ?_))) <;> (first | omega | (simp; done) | (simp; omega)))), hn2, hn3, (by (repeat (first | with_reducible exact Below.refl _ _ | (with_reducible refine bel_next ?_ ?_ (by assumption)) | (with_reducible refine Below.alloc ?_ ?_ _) | (with_reducible refine Below.drew ?_) | (with_reducible refine below_drewN ?_ _) | (with_reducible refine Below.setCell ?_ ?_ _))) <;> (first | omega | (simp; done) | (simp; omega)))⟩


set_option maxRecDepth 20000 in
set_option maxHeartbeats 4000000 in
theorem compiled2 (dst sa sb sc sn : Int) (hs : StC ⟨2, dst, sa, sb, sc, sn⟩) (gs : List Gt) (hgt : gtsOk 0 gs = true) (h59 : gs.length ≤ 5900) (a1 a2 : Option Addr) (c1 c2 : Nat) (w : World) (hr : RdC w a1 (gtCells gs)) (rs : List RV) (hl : rs.length = 8) (ra : Option Addr) (rc : Nat) (hra : RdC w ra (rvCells rs)) (hok : ∀ r ∈ rs, RvOk w (fun _ => True) r) (hwr : ∀ i : Nat, i < 8 → Wrs gs 4 (rgA (regsOf rs) i)) (zero : Int) :
    Calls Try.prog 78 #[.agg #[.slice a1 gs.length c1, .slice a2 0 c2], .agg #[.int .i64 2, .int .i64 dst, .int .i64 sa, .int .i64 sb, .int .i64 sc, .int .i64 sn], .slice ra 8 rc, .int .i64 zero] w fun e w' => PostW w w' e (stG (regsOf rs) zero ⟨2, dst, sa, sb, sc, sn⟩ gs).1 [] (stG (regsOf rs) zero ⟨2, dst, sa, sb, sc, sn⟩ gs).2 := by
  have ha := hs.a
  have hb := hs.b
  have hc := hs.c
  have hk := hs.k
  have hi := hs.i
  clear hs
  simp only at ha hb hc hk hi
  obtain ⟨na, rfl⟩ := Int.eq_ofNat_of_zero_le ha.1
  obtain ⟨nb, rfl⟩ := Int.eq_ofNat_of_zero_le hb.1
  obtain ⟨nc, rfl⟩ := Int.eq_ofNat_of_zero_le hc.1
  obtain ⟨bl, off, ax, cx, xs, rfl, hbl, ka, HX, HLx, hcx, hrx, _⟩ := hra.rv hok na (by omega)
  obtain ⟨bl2, off2, ay, cy, ys, e2, _, kb, HY, HLy, hcy, hry, _⟩ := hra.rv hok nb (by omega)
  cases e2
  obtain ⟨bl3, off3, az, cz, zs, e3, _, kc, HZ, HLz, hcz, hrz, _⟩ := hra.rv hok nc (by omega)
  cases e3
  have hwx := hwr na (by omega)
  have hwy := hwr nb (by omega)
  have hwz := hwr nc (by omega)
  rw [HX] at hwx
  rw [HY] at hwy
  rw [HZ] at hwz
  have hna : (na : Int) < 8 := by omega
  have hnb : (nb : Int) < 8 := by omega
  have hnc : (nc : Int) < 8 := by omega
  have h8a : (na : Int).tmod 8 = na := Int.tmod_eq_of_lt (by omega) (by omega)
  have h8b : (nb : Int).tmod 8 = nb := Int.tmod_eq_of_lt (by omega) (by omega)
  have nw0 : bl ≠ w.heap.size := by omega
  have nw1 : bl ≠ w.heap.size + 1 := by omega
  have nw2 : bl ≠ w.heap.size + 1 + 1 := by omega
  have nw3 : bl ≠ w.heap.size + 1 + 1 := by omega
  have HR := Lib.hid hr
  have HRX := Lib.hid hrx
  have HRY := Lib.hid hry
  have HRZ := Lib.hid hrz
  have HLX := Lib.hid HLx
  have HLY := Lib.hid HLy
  have HLZ := Lib.hid HLz
  have HWX := Lib.hid hwx
  have HWY := Lib.hid hwy
  have HWZ := Lib.hid hwz
  have HGT := Lib.hid hgt
  have HXX := Lib.hid HX
  have HYY := Lib.hid HY
  have HZZ := Lib.hid HZ
  clear hra hr hrx hry hrz HLx HLy HLz HX HY HZ hok hwr hwx hwy hwz hgt
  have HASK : Hid ((true) = true) := by show _ = _; rfl
  have HN2 : Hid (RdC w a2 (I64 [])) := .inl rfl
  have hgl : gs.length ≤ 1048576 := by omega
  have ka1 : (((w.alloc (.cells #[.slice a1 gs.length c1, .slice a2 0 c2] 29)).alloc (.cells #[.int .i64 2, .int .i64 dst, .int .i64 na, .int .i64 nb, .int .i64 nc, .int .i64 sn] 90)).alloc (.cells #[.slice none 0 0, .slice none 0 0] 29)).cell? ⟨bl, off + na, none⟩ = some (.slice ax 4 cx) := bel_keeps ((((Below.refl _ _).alloc (Nat.le_refl _) _).alloc (by simp) _).alloc (by simp; omega) _) ka
  have kb1 : (((w.alloc (.cells #[.slice a1 gs.length c1, .slice a2 0 c2] 29)).alloc (.cells #[.int .i64 2, .int .i64 dst, .int .i64 na, .int .i64 nb, .int .i64 nc, .int .i64 sn] 90)).alloc (.cells #[.slice none 0 0, .slice none 0 0] 29)).cell? ⟨bl, off + nb, none⟩ = some (.slice ay 4 cy) := bel_keeps ((((Below.refl _ _).alloc (Nat.le_refl _) _).alloc (by simp) _).alloc (by simp; omega) _) kb
  go_enter Try.func78, Try.ntmps78
  go_wp2_with fail
  obtain ⟨W, hW⟩ : ∃ X, X = ((w.alloc (.cells #[.slice a1 gs.length c1, .slice a2 0 c2] 29)).alloc (.cells #[.int .i64 2, .int .i64 dst, .int .i64 na, .int .i64 nb, .int .i64 nc, .int .i64 sn] 90)).alloc (.cells #[.slice none 0 0, .slice none 0 0] 29) := ⟨_, rfl⟩
  have hbW : Below w.heap.size w W := by rw [hW]; exact (((Below.refl _ _).alloc (Nat.le_refl _) _).alloc (by simp) _).alloc (by simp; omega) _
  have zW : w.heap.size + 3 ≤ W.heap.size := by rw [hW]; simp
  have k0 : W.cell? ⟨w.heap.size, 0, none⟩ = some (.slice a1 gs.length c1) := by rw [hW]; go_simp
  have k1 : W.cell? ⟨w.heap.size, 1, none⟩ = some (.slice a2 0 c2) := by rw [hW]; go_simp
  have k2 : W.cell? ⟨w.heap.size + 1, 0, none⟩ = some (.int .i64 2) := by rw [hW]; go_simp
  have k3 : W.cell? ⟨w.heap.size + 1, 1, none⟩ = some (.int .i64 dst) := by rw [hW]; go_simp
  have k4 : W.cell? ⟨w.heap.size + 1, 2, none⟩ = some (.int .i64 na) := by rw [hW]; go_simp
  have k5 : W.cell? ⟨w.heap.size + 1, 3, none⟩ = some (.int .i64 nb) := by rw [hW]; go_simp
  have k6 : W.cell? ⟨w.heap.size + 1, 4, none⟩ = some (.int .i64 nc) := by rw [hW]; go_simp
  have k7 : W.cell? ⟨w.heap.size + 1, 5, none⟩ = some (.int .i64 sn) := by rw [hW]; go_simp
  have k8 : W.cell? ⟨w.heap.size + 1 + 1, 0, none⟩ = some (.slice none 0 0) := by rw [hW]; go_simp
  have k9 : W.cell? ⟨w.heap.size + 1 + 1, 1, none⟩ = some (.slice none 0 0) := by rw [hW]; go_simp
  have f0 : W.frozen? ⟨w.heap.size + 1 + 1, 0, none⟩ = false := by rw [hW]; go_simp
  have f1 : W.frozen? ⟨w.heap.size + 1 + 1, 1, none⟩ = false := by rw [hW]; go_simp
  have kR : W.cell? ⟨bl, off + nc, none⟩ = some (.slice az 4 cz) := bel_keeps hbW kc
  rw [← hW]
  have HBW := Lib.hid hbW
  clear hW kc hbW ka kb ka1 kb1
  obtain ⟨PG, hPG⟩ : ∃ x, x = (inputP ((na : Int) * 4 + sn) gs).1 := ⟨_, rfl⟩
  obtain ⟨PT, hPT⟩ : ∃ x, x = (inputP ((na : Int) * 4 + sn) gs).2 := ⟨_, rfl⟩
  have HPG := Lib.hid hPG
  have HPT := Lib.hid hPT
  clear hPG hPT
  have hcc := iinputWord_any gs [] a1 a2 c1 c2 W hgl (by simp) (HR.out.below HBW.out) (HN2.out.below HBW.out) (na : Int) sn ⟨by omega, (hi trivial).1⟩ (hi trivial).2 h59
  rw [wP_true, ← HPG.out, ← HPT.out] at hcc
  refine hcc.mono ?_
  clear hcc
  rintro e w2 ⟨b1, d1, b2, d2, g, c', rfl, h1, h2, hn1, h3, hn2, hn3, hb⟩
  have z2 := hb.size
  have qq0 := bel_keeps hb k0
  have qq1 := bel_keeps hb k1
  have qq2 := bel_keeps hb k2
  have qq3 := bel_keeps hb k3
  have qq4 := bel_keeps hb k4
  have qq5 := bel_keeps hb k5
  have qq6 := bel_keeps hb k6
  have qq7 := bel_keeps hb k7
  have qq8 := bel_keeps hb k8
  have qq9 := bel_keeps hb k9
  have g0 := bel_free hb (b := w.heap.size + 1 + 1) (o := 0) (by omega) f0
  have g1 := bel_free hb (b := w.heap.size + 1 + 1) (o := 1) (by omega) f1
  clear k0 k1 k2 k3 k4 k5 k6 k7 k8 k9 f0 f1 kR
  go_wp2_with fail
  refine bodyPost_ret (v := .tuple #[.agg #[.slice b1 PG.length d1, .slice b2 0 d2], .slice g PT.length c']) (by simp [results, Try.results78, go_sem, *]) rfl ?_
  have e1 : stG (regsOf rs) zero ⟨2, dst, na, nb, nc, sn⟩ gs = inputP ((na : Int) * 4 + sn) gs := by simp only [stG, HXX.out, HYY.out, HZZ.out]; rfl
  rw [e1, ← HPG.out, ← HPT.out]
  have hbw := HBW.out
  exact ⟨b1, d1, b2, d2, g, c', rfl, ((h1.lo (by first | omega | (simp; omega))).keep fun x hx => by have hq := h1.blk x hx; (try simp at hq); exact (by (repeat (first | with_reducible exact Kp.refl _ _ | (with_reducible refine Kp.rng ?_ (by assumption) ?_) | (with_reducible refine Kp.below ?_ (by assumption)) | (with_reducible refine Kp.grown ?_ (by assumption) ?_) | (with_reducible refine Kp.alloc ?_ _) | (with_reducible refine Kp.drew ?_) | (with_reducible refine Kp.drewN ?_ _) | (with_reducible refine Kp.setCell ?_ _ ?_))) <;> (first | omega | (simp; done) | (simp; omega)))), ((h2.lo (by first | omega | (simp; omega))).keep fun x hx => by have hq := h2.blk x hx; (try simp at hq); exact (by (repeat (first | with_reducible exact Kp.refl _ _ | (with_reducible refine Kp.rng ?_ (by assumption) ?_) | (with_reducible refine Kp.below ?_ (by assumption)) | (with_reducible refine Kp.grown ?_ (by assumption) ?_) | (with_reducible refine Kp.alloc ?_ _) | (with_reducible refine Kp.drew ?_) | (with_reducible refine Kp.drewN ?_ _) | (with_reducible refine Kp.setCell ?_ _ ?_))) <;> (first | omega | (simp; done) | (simp; omega)))), hn1, ((h3.lo (by first | omega | (simp; omega))).keep fun x hx => by have hq := h3.blk x hx; (try simp at hq); exact (by (repeat (first | with_reducible exact Kp.refl _ _ | (with_reducible refine Kp.rng ?_ (by assumption) ?_) | (with_reducible refine Kp.below ?_ (by assumption)) | (with_reducible refine Kp.grown ?_ (by assumption) ?_) | (with_reducible refine Kp.alloc ?_ _) | (with_reducible refine Kp.drew ?_) | (with_reducible refine Kp.drewN ?_ _) | (with_reducible refine Kp.setCell ?_ _ ?_))) <;> (first | omega | (simp; done) | (simp; omega)))), hn2, hn3, (by (repeat (first | with_reducible exact Below.refl _ _ | (with_reducible refine bel_next ?_ ?_ (by assumption)) | (with_reducible refine Below.alloc ?_ ?_ _) | (with_reducible refine Below.drew ?_) | (with_reducible refine below_drewN ?_ _) | (with_reducible refine Below.setCell ?_ ?_ _))) <;> (first | omega | (simp; done) | (simp; omega)))⟩


set_option maxRecDepth 20000 in
set_option maxHeartbeats 4000000 in
theorem compiled3 (dst sa sb sc sn : Int) (hs : StC ⟨3, dst, sa, sb, sc, sn⟩) (gs : List Gt) (hgt : gtsOk 0 gs = true) (h59 : gs.length ≤ 5900) (a1 a2 : Option Addr) (c1 c2 : Nat) (w : World) (hr : RdC w a1 (gtCells gs)) (rs : List RV) (hl : rs.length = 8) (ra : Option Addr) (rc : Nat) (hra : RdC w ra (rvCells rs)) (hok : ∀ r ∈ rs, RvOk w (fun _ => True) r) (hwr : ∀ i : Nat, i < 8 → Wrs gs 4 (rgA (regsOf rs) i)) (zero : Int) :
    Calls Try.prog 78 #[.agg #[.slice a1 gs.length c1, .slice a2 0 c2], .agg #[.int .i64 3, .int .i64 dst, .int .i64 sa, .int .i64 sb, .int .i64 sc, .int .i64 sn], .slice ra 8 rc, .int .i64 zero] w fun e w' => PostW w w' e (stG (regsOf rs) zero ⟨3, dst, sa, sb, sc, sn⟩ gs).1 [] (stG (regsOf rs) zero ⟨3, dst, sa, sb, sc, sn⟩ gs).2 := by
  have ha := hs.a
  have hb := hs.b
  have hc := hs.c
  have hk := hs.k
  have hi := hs.i
  clear hs
  simp only at ha hb hc hk hi
  obtain ⟨na, rfl⟩ := Int.eq_ofNat_of_zero_le ha.1
  obtain ⟨nb, rfl⟩ := Int.eq_ofNat_of_zero_le hb.1
  obtain ⟨nc, rfl⟩ := Int.eq_ofNat_of_zero_le hc.1
  obtain ⟨bl, off, ax, cx, xs, rfl, hbl, ka, HX, HLx, hcx, hrx, _⟩ := hra.rv hok na (by omega)
  obtain ⟨bl2, off2, ay, cy, ys, e2, _, kb, HY, HLy, hcy, hry, _⟩ := hra.rv hok nb (by omega)
  cases e2
  obtain ⟨bl3, off3, az, cz, zs, e3, _, kc, HZ, HLz, hcz, hrz, _⟩ := hra.rv hok nc (by omega)
  cases e3
  have hwx := hwr na (by omega)
  have hwy := hwr nb (by omega)
  have hwz := hwr nc (by omega)
  rw [HX] at hwx
  rw [HY] at hwy
  rw [HZ] at hwz
  have hna : (na : Int) < 8 := by omega
  have hnb : (nb : Int) < 8 := by omega
  have hnc : (nc : Int) < 8 := by omega
  have h8a : (na : Int).tmod 8 = na := Int.tmod_eq_of_lt (by omega) (by omega)
  have h8b : (nb : Int).tmod 8 = nb := Int.tmod_eq_of_lt (by omega) (by omega)
  have nw0 : bl ≠ w.heap.size := by omega
  have nw1 : bl ≠ w.heap.size + 1 := by omega
  have nw2 : bl ≠ w.heap.size + 1 + 1 := by omega
  have nw3 : bl ≠ w.heap.size + 1 + 1 := by omega
  have HR := Lib.hid hr
  have HRX := Lib.hid hrx
  have HRY := Lib.hid hry
  have HRZ := Lib.hid hrz
  have HLX := Lib.hid HLx
  have HLY := Lib.hid HLy
  have HLZ := Lib.hid HLz
  have HWX := Lib.hid hwx
  have HWY := Lib.hid hwy
  have HWZ := Lib.hid hwz
  have HGT := Lib.hid hgt
  have HXX := Lib.hid HX
  have HYY := Lib.hid HY
  have HZZ := Lib.hid HZ
  clear hra hr hrx hry hrz HLx HLy HLz HX HY HZ hok hwr hwx hwy hwz hgt
  have HASK : Hid ((askB gs [] xs ys) = true) := by show _ = _; exact ask_of HGT.out h59 HWX.out HWY.out
  have HN2 : Hid (RdC w a2 (I64 [])) := .inl rfl
  have hgl : gs.length ≤ 1048576 := by omega
  have ka1 : (((w.alloc (.cells #[.slice a1 gs.length c1, .slice a2 0 c2] 29)).alloc (.cells #[.int .i64 3, .int .i64 dst, .int .i64 na, .int .i64 nb, .int .i64 nc, .int .i64 sn] 90)).alloc (.cells #[.slice none 0 0, .slice none 0 0] 29)).cell? ⟨bl, off + na, none⟩ = some (.slice ax 4 cx) := bel_keeps ((((Below.refl _ _).alloc (Nat.le_refl _) _).alloc (by simp) _).alloc (by simp; omega) _) ka
  have kb1 : (((w.alloc (.cells #[.slice a1 gs.length c1, .slice a2 0 c2] 29)).alloc (.cells #[.int .i64 3, .int .i64 dst, .int .i64 na, .int .i64 nb, .int .i64 nc, .int .i64 sn] 90)).alloc (.cells #[.slice none 0 0, .slice none 0 0] 29)).cell? ⟨bl, off + nb, none⟩ = some (.slice ay 4 cy) := bel_keeps ((((Below.refl _ _).alloc (Nat.le_refl _) _).alloc (by simp) _).alloc (by simp; omega) _) kb
  go_enter Try.func78, Try.ntmps78
  go_wp2_with fail
  obtain ⟨W, hW⟩ : ∃ X, X = ((w.alloc (.cells #[.slice a1 gs.length c1, .slice a2 0 c2] 29)).alloc (.cells #[.int .i64 3, .int .i64 dst, .int .i64 na, .int .i64 nb, .int .i64 nc, .int .i64 sn] 90)).alloc (.cells #[.slice none 0 0, .slice none 0 0] 29) := ⟨_, rfl⟩
  have hbW : Below w.heap.size w W := by rw [hW]; exact (((Below.refl _ _).alloc (Nat.le_refl _) _).alloc (by simp) _).alloc (by simp; omega) _
  have zW : w.heap.size + 3 ≤ W.heap.size := by rw [hW]; simp
  have k0 : W.cell? ⟨w.heap.size, 0, none⟩ = some (.slice a1 gs.length c1) := by rw [hW]; go_simp
  have k1 : W.cell? ⟨w.heap.size, 1, none⟩ = some (.slice a2 0 c2) := by rw [hW]; go_simp
  have k2 : W.cell? ⟨w.heap.size + 1, 0, none⟩ = some (.int .i64 3) := by rw [hW]; go_simp
  have k3 : W.cell? ⟨w.heap.size + 1, 1, none⟩ = some (.int .i64 dst) := by rw [hW]; go_simp
  have k4 : W.cell? ⟨w.heap.size + 1, 2, none⟩ = some (.int .i64 na) := by rw [hW]; go_simp
  have k5 : W.cell? ⟨w.heap.size + 1, 3, none⟩ = some (.int .i64 nb) := by rw [hW]; go_simp
  have k6 : W.cell? ⟨w.heap.size + 1, 4, none⟩ = some (.int .i64 nc) := by rw [hW]; go_simp
  have k7 : W.cell? ⟨w.heap.size + 1, 5, none⟩ = some (.int .i64 sn) := by rw [hW]; go_simp
  have k8 : W.cell? ⟨w.heap.size + 1 + 1, 0, none⟩ = some (.slice none 0 0) := by rw [hW]; go_simp
  have k9 : W.cell? ⟨w.heap.size + 1 + 1, 1, none⟩ = some (.slice none 0 0) := by rw [hW]; go_simp
  have f0 : W.frozen? ⟨w.heap.size + 1 + 1, 0, none⟩ = false := by rw [hW]; go_simp
  have f1 : W.frozen? ⟨w.heap.size + 1 + 1, 1, none⟩ = false := by rw [hW]; go_simp
  have kR : W.cell? ⟨bl, off + nc, none⟩ = some (.slice az 4 cz) := bel_keeps hbW kc
  rw [← hW]
  have HBW := Lib.hid hbW
  clear hW kc hbW ka kb ka1 kb1
  obtain ⟨PG, hPG⟩ : ∃ x, x = (sumP xs ys 0 3 gs).1 := ⟨_, rfl⟩
  obtain ⟨PT, hPT⟩ : ∃ x, x = (sumP xs ys 0 3 gs).2 := ⟨_, rfl⟩
  have HPG := Lib.hid hPG
  have HPT := Lib.hid hPT
  clear hPG hPT
  have hcc := iWordAdd_any gs [] a1 a2 c1 c2 W hgl (by simp) (HR.out.below HBW.out) (HN2.out.below HBW.out) xs 4 ax cx HLX.out (by omega) (HRX.out.below HBW.out) ys 4 ay cy HLY.out (by omega) (HRY.out.below HBW.out) hcx
  rw [HASK.out, wP_true, ← HPG.out, ← HPT.out] at hcc
  refine hcc.mono ?_
  clear hcc
  rintro e w2 ⟨b1, d1, b2, d2, g, c', rfl, h1, h2, hn1, h3, hn2, hn3, hb⟩
  have z2 := hb.size
  have qq0 := bel_keeps hb k0
  have qq1 := bel_keeps hb k1
  have qq2 := bel_keeps hb k2
  have qq3 := bel_keeps hb k3
  have qq4 := bel_keeps hb k4
  have qq5 := bel_keeps hb k5
  have qq6 := bel_keeps hb k6
  have qq7 := bel_keeps hb k7
  have qq8 := bel_keeps hb k8
  have qq9 := bel_keeps hb k9
  have g0 := bel_free hb (b := w.heap.size + 1 + 1) (o := 0) (by omega) f0
  have g1 := bel_free hb (b := w.heap.size + 1 + 1) (o := 1) (by omega) f1
  clear k0 k1 k2 k3 k4 k5 k6 k7 k8 k9 f0 f1 kR
  go_wp2_with fail
  refine bodyPost_ret (v := .tuple #[.agg #[.slice b1 PG.length d1, .slice b2 0 d2], .slice g PT.length c']) (by simp [results, Try.results78, go_sem, *]) rfl ?_
  have e1 : stG (regsOf rs) zero ⟨3, dst, na, nb, nc, sn⟩ gs = sumP xs ys 0 3 gs := by simp only [stG, HXX.out, HYY.out, HZZ.out]; rfl
  rw [e1, ← HPG.out, ← HPT.out]
  have hbw := HBW.out
  exact ⟨b1, d1, b2, d2, g, c', rfl, ((h1.lo (by first | omega | (simp; omega))).keep fun x hx => by have hq := h1.blk x hx; (try simp at hq); exact (by (repeat (first | with_reducible exact Kp.refl _ _ | (with_reducible refine Kp.rng ?_ (by assumption) ?_) | (with_reducible refine Kp.below ?_ (by assumption)) | (with_reducible refine Kp.grown ?_ (by assumption) ?_) | (with_reducible refine Kp.alloc ?_ _) | (with_reducible refine Kp.drew ?_) | (with_reducible refine Kp.drewN ?_ _) | (with_reducible refine Kp.setCell ?_ _ ?_))) <;> (first | omega | (simp; done) | (simp; omega)))), ((h2.lo (by first | omega | (simp; omega))).keep fun x hx => by have hq := h2.blk x hx; (try simp at hq); exact (by (repeat (first | with_reducible exact Kp.refl _ _ | (with_reducible refine Kp.rng ?_ (by assumption) ?_) | (with_reducible refine Kp.below ?_ (by assumption)) | (with_reducible refine Kp.grown ?_ (by assumption) ?_) | (with_reducible refine Kp.alloc ?_ _) | (with_reducible refine Kp.drew ?_) | (with_reducible refine Kp.drewN ?_ _) | (with_reducible refine Kp.setCell ?_ _ ?_))) <;> (first | omega | (simp; done) | (simp; omega)))), hn1, ((h3.lo (by first | omega | (simp; omega))).keep fun x hx => by have hq := h3.blk x hx; (try simp at hq); exact (by (repeat (first | with_reducible exact Kp.refl _ _ | (with_reducible refine Kp.rng ?_ (by assumption) ?_) | (with_reducible refine Kp.below ?_ (by assumption)) | (with_reducible refine Kp.grown ?_ (by assumption) ?_) | (with_reducible refine Kp.alloc ?_ _) | (with_reducible refine Kp.drew ?_) | (with_reducible refine Kp.drewN ?_ _) | (with_reducible refine Kp.setCell ?_ _ ?_))) <;> (first | omega | (simp; done) | (simp; omega)))), hn2, hn3, (by (repeat (first | with_reducible exact Below.refl _ _ | (with_reducible refine bel_next ?_ ?_ (by assumption)) | (with_reducible refine Below.alloc ?_ ?_ _) | (with_reducible refine Below.drew ?_) | (with_reducible refine below_drewN ?_ _) | (with_reducible refine Below.setCell ?_ ?_ _))) <;> (first | omega | (simp; done) | (simp; omega)))⟩


set_option maxRecDepth 20000 in
set_option maxHeartbeats 4000000 in
theorem compiled4 (dst sa sb sc sn : Int) (hs : StC ⟨4, dst, sa, sb, sc, sn⟩) (gs : List Gt) (hgt : gtsOk 0 gs = true) (h59 : gs.length ≤ 5900) (a1 a2 : Option Addr) (c1 c2 : Nat) (w : World) (hr : RdC w a1 (gtCells gs)) (rs : List RV) (hl : rs.length = 8) (ra : Option Addr) (rc : Nat) (hra : RdC w ra (rvCells rs)) (hok : ∀ r ∈ rs, RvOk w (fun _ => True) r) (hwr : ∀ i : Nat, i < 8 → Wrs gs 4 (rgA (regsOf rs) i)) (zero : Int) :
    Calls Try.prog 78 #[.agg #[.slice a1 gs.length c1, .slice a2 0 c2], .agg #[.int .i64 4, .int .i64 dst, .int .i64 sa, .int .i64 sb, .int .i64 sc, .int .i64 sn], .slice ra 8 rc, .int .i64 zero] w fun e w' => PostW w w' e (stG (regsOf rs) zero ⟨4, dst, sa, sb, sc, sn⟩ gs).1 [] (stG (regsOf rs) zero ⟨4, dst, sa, sb, sc, sn⟩ gs).2 := by
  have ha := hs.a
  have hb := hs.b
  have hc := hs.c
  have hk := hs.k
  have hi := hs.i
  clear hs
  simp only at ha hb hc hk hi
  obtain ⟨na, rfl⟩ := Int.eq_ofNat_of_zero_le ha.1
  obtain ⟨nb, rfl⟩ := Int.eq_ofNat_of_zero_le hb.1
  obtain ⟨nc, rfl⟩ := Int.eq_ofNat_of_zero_le hc.1
  obtain ⟨bl, off, ax, cx, xs, rfl, hbl, ka, HX, HLx, hcx, hrx, _⟩ := hra.rv hok na (by omega)
  obtain ⟨bl2, off2, ay, cy, ys, e2, _, kb, HY, HLy, hcy, hry, _⟩ := hra.rv hok nb (by omega)
  cases e2
  obtain ⟨bl3, off3, az, cz, zs, e3, _, kc, HZ, HLz, hcz, hrz, _⟩ := hra.rv hok nc (by omega)
  cases e3
  have hwx := hwr na (by omega)
  have hwy := hwr nb (by omega)
  have hwz := hwr nc (by omega)
  rw [HX] at hwx
  rw [HY] at hwy
  rw [HZ] at hwz
  have hna : (na : Int) < 8 := by omega
  have hnb : (nb : Int) < 8 := by omega
  have hnc : (nc : Int) < 8 := by omega
  have h8a : (na : Int).tmod 8 = na := Int.tmod_eq_of_lt (by omega) (by omega)
  have h8b : (nb : Int).tmod 8 = nb := Int.tmod_eq_of_lt (by omega) (by omega)
  have nw0 : bl ≠ w.heap.size := by omega
  have nw1 : bl ≠ w.heap.size + 1 := by omega
  have nw2 : bl ≠ w.heap.size + 1 + 1 := by omega
  have nw3 : bl ≠ w.heap.size + 1 + 1 := by omega
  have HR := Lib.hid hr
  have HRX := Lib.hid hrx
  have HRY := Lib.hid hry
  have HRZ := Lib.hid hrz
  have HLX := Lib.hid HLx
  have HLY := Lib.hid HLy
  have HLZ := Lib.hid HLz
  have HWX := Lib.hid hwx
  have HWY := Lib.hid hwy
  have HWZ := Lib.hid hwz
  have HGT := Lib.hid hgt
  have HXX := Lib.hid HX
  have HYY := Lib.hid HY
  have HZZ := Lib.hid HZ
  clear hra hr hrx hry hrz HLx HLy HLz HX HY HZ hok hwr hwx hwy hwz hgt
  have HASK : Hid ((askB gs [] xs ys) = true) := by show _ = _; exact ask_of HGT.out h59 HWX.out HWY.out
  have HN2 : Hid (RdC w a2 (I64 [])) := .inl rfl
  have hgl : gs.length ≤ 1048576 := by omega
  have ka1 : (((w.alloc (.cells #[.slice a1 gs.length c1, .slice a2 0 c2] 29)).alloc (.cells #[.int .i64 4, .int .i64 dst, .int .i64 na, .int .i64 nb, .int .i64 nc, .int .i64 sn] 90)).alloc (.cells #[.slice none 0 0, .slice none 0 0] 29)).cell? ⟨bl, off + na, none⟩ = some (.slice ax 4 cx) := bel_keeps ((((Below.refl _ _).alloc (Nat.le_refl _) _).alloc (by simp) _).alloc (by simp; omega) _) ka
  have kb1 : (((w.alloc (.cells #[.slice a1 gs.length c1, .slice a2 0 c2] 29)).alloc (.cells #[.int .i64 4, .int .i64 dst, .int .i64 na, .int .i64 nb, .int .i64 nc, .int .i64 sn] 90)).alloc (.cells #[.slice none 0 0, .slice none 0 0] 29)).cell? ⟨bl, off + nb, none⟩ = some (.slice ay 4 cy) := bel_keeps ((((Below.refl _ _).alloc (Nat.le_refl _) _).alloc (by simp) _).alloc (by simp; omega) _) kb
  go_enter Try.func78, Try.ntmps78
  go_wp2_with fail
  obtain ⟨W, hW⟩ : ∃ X, X = ((w.alloc (.cells #[.slice a1 gs.length c1, .slice a2 0 c2] 29)).alloc (.cells #[.int .i64 4, .int .i64 dst, .int .i64 na, .int .i64 nb, .int .i64 nc, .int .i64 sn] 90)).alloc (.cells #[.slice none 0 0, .slice none 0 0] 29) := ⟨_, rfl⟩
  have hbW : Below w.heap.size w W := by rw [hW]; exact (((Below.refl _ _).alloc (Nat.le_refl _) _).alloc (by simp) _).alloc (by simp; omega) _
  have zW : w.heap.size + 3 ≤ W.heap.size := by rw [hW]; simp
  have k0 : W.cell? ⟨w.heap.size, 0, none⟩ = some (.slice a1 gs.length c1) := by rw [hW]; go_simp
  have k1 : W.cell? ⟨w.heap.size, 1, none⟩ = some (.slice a2 0 c2) := by rw [hW]; go_simp
  have k2 : W.cell? ⟨w.heap.size + 1, 0, none⟩ = some (.int .i64 4) := by rw [hW]; go_simp
  have k3 : W.cell? ⟨w.heap.size + 1, 1, none⟩ = some (.int .i64 dst) := by rw [hW]; go_simp
  have k4 : W.cell? ⟨w.heap.size + 1, 2, none⟩ = some (.int .i64 na) := by rw [hW]; go_simp
  have k5 : W.cell? ⟨w.heap.size + 1, 3, none⟩ = some (.int .i64 nb) := by rw [hW]; go_simp
  have k6 : W.cell? ⟨w.heap.size + 1, 4, none⟩ = some (.int .i64 nc) := by rw [hW]; go_simp
  have k7 : W.cell? ⟨w.heap.size + 1, 5, none⟩ = some (.int .i64 sn) := by rw [hW]; go_simp
  have k8 : W.cell? ⟨w.heap.size + 1 + 1, 0, none⟩ = some (.slice none 0 0) := by rw [hW]; go_simp
  have k9 : W.cell? ⟨w.heap.size + 1 + 1, 1, none⟩ = some (.slice none 0 0) := by rw [hW]; go_simp
  have f0 : W.frozen? ⟨w.heap.size + 1 + 1, 0, none⟩ = false := by rw [hW]; go_simp
  have f1 : W.frozen? ⟨w.heap.size + 1 + 1, 1, none⟩ = false := by rw [hW]; go_simp
  have kR : W.cell? ⟨bl, off + nc, none⟩ = some (.slice az 4 cz) := bel_keeps hbW kc
  rw [← hW]
  have HBW := Lib.hid hbW
  clear hW kc hbW ka kb ka1 kb1
  obtain ⟨PG, hPG⟩ : ∃ x, x = (sumP xs (notsP ys gs).2 1 3 (notsP ys gs).1).1 := ⟨_, rfl⟩
  obtain ⟨PT, hPT⟩ : ∃ x, x = (sumP xs (notsP ys gs).2 1 3 (notsP ys gs).1).2 := ⟨_, rfl⟩
  have HPG := Lib.hid hPG
  have HPT := Lib.hid hPT
  clear hPG hPT
  have hcc := iWordSub_any gs [] a1 a2 c1 c2 W hgl (by simp) (HR.out.below HBW.out) (HN2.out.below HBW.out) xs 4 ax cx HLX.out (by omega) (HRX.out.below HBW.out) ys 4 ay cy HLY.out (by omega) (HRY.out.below HBW.out) hcx
  rw [HASK.out, wP_true, ← HPG.out, ← HPT.out] at hcc
  refine hcc.mono ?_
  clear hcc
  rintro e w2 ⟨b1, d1, b2, d2, g, c', rfl, h1, h2, hn1, h3, hn2, hn3, hb⟩
  have z2 := hb.size
  have qq0 := bel_keeps hb k0
  have qq1 := bel_keeps hb k1
  have qq2 := bel_keeps hb k2
  have qq3 := bel_keeps hb k3
  have qq4 := bel_keeps hb k4
  have qq5 := bel_keeps hb k5
  have qq6 := bel_keeps hb k6
  have qq7 := bel_keeps hb k7
  have qq8 := bel_keeps hb k8
  have qq9 := bel_keeps hb k9
  have g0 := bel_free hb (b := w.heap.size + 1 + 1) (o := 0) (by omega) f0
  have g1 := bel_free hb (b := w.heap.size + 1 + 1) (o := 1) (by omega) f1
  clear k0 k1 k2 k3 k4 k5 k6 k7 k8 k9 f0 f1 kR
  go_wp2_with fail
  refine bodyPost_ret (v := .tuple #[.agg #[.slice b1 PG.length d1, .slice b2 0 d2], .slice g PT.length c']) (by simp [results, Try.results78, go_sem, *]) rfl ?_
  have e1 : stG (regsOf rs) zero ⟨4, dst, na, nb, nc, sn⟩ gs = sumP xs (notsP ys gs).2 1 3 (notsP ys gs).1 := by simp only [stG, HXX.out, HYY.out, HZZ.out]; rfl
  rw [e1, ← HPG.out, ← HPT.out]
  have hbw := HBW.out
  exact ⟨b1, d1, b2, d2, g, c', rfl, ((h1.lo (by first | omega | (simp; omega))).keep fun x hx => by have hq := h1.blk x hx; (try simp at hq); exact (by (repeat (first | with_reducible exact Kp.refl _ _ | (with_reducible refine Kp.rng ?_ (by assumption) ?_) | (with_reducible refine Kp.below ?_ (by assumption)) | (with_reducible refine Kp.grown ?_ (by assumption) ?_) | (with_reducible refine Kp.alloc ?_ _) | (with_reducible refine Kp.drew ?_) | (with_reducible refine Kp.drewN ?_ _) | (with_reducible refine Kp.setCell ?_ _ ?_))) <;> (first | omega | (simp; done) | (simp; omega)))), ((h2.lo (by first | omega | (simp; omega))).keep fun x hx => by have hq := h2.blk x hx; (try simp at hq); exact (by (repeat (first | with_reducible exact Kp.refl _ _ | (with_reducible refine Kp.rng ?_ (by assumption) ?_) | (with_reducible refine Kp.below ?_ (by assumption)) | (with_reducible refine Kp.grown ?_ (by assumption) ?_) | (with_reducible refine Kp.alloc ?_ _) | (with_reducible refine Kp.drew ?_) | (with_reducible refine Kp.drewN ?_ _) | (with_reducible refine Kp.setCell ?_ _ ?_))) <;> (first | omega | (simp; done) | (simp; omega)))), hn1, ((h3.lo (by first | omega | (simp; omega))).keep fun x hx => by have hq := h3.blk x hx; (try simp at hq); exact (by (repeat (first | with_reducible exact Kp.refl _ _ | (with_reducible refine Kp.rng ?_ (by assumption) ?_) | (with_reducible refine Kp.below ?_ (by assumption)) | (with_reducible refine Kp.grown ?_ (by assumption) ?_) | (with_reducible refine Kp.alloc ?_ _) | (with_reducible refine Kp.drew ?_) | (with_reducible refine Kp.drewN ?_ _) | (with_reducible refine Kp.setCell ?_ _ ?_))) <;> (first | omega | (simp; done) | (simp; omega)))), hn2, hn3, (by (repeat (first | with_reducible exact Below.refl _ _ | (with_reducible refine bel_next ?_ ?_ (by assumption)) | (with_reducible refine Below.alloc ?_ ?_ _) | (with_reducible refine Below.drew ?_) | (with_reducible refine below_drewN ?_ _) | (with_reducible refine Below.setCell ?_ ?_ _))) <;> (first | omega | (simp; done) | (simp; omega)))⟩


set_option maxRecDepth 20000 in
set_option maxHeartbeats 4000000 in
theorem compiled5 (dst sa sb sc sn : Int) (hs : StC ⟨5, dst, sa, sb, sc, sn⟩) (gs : List Gt) (hgt : gtsOk 0 gs = true) (h59 : gs.length ≤ 5900) (a1 a2 : Option Addr) (c1 c2 : Nat) (w : World) (hr : RdC w a1 (gtCells gs)) (rs : List RV) (hl : rs.length = 8) (ra : Option Addr) (rc : Nat) (hra : RdC w ra (rvCells rs)) (hok : ∀ r ∈ rs, RvOk w (fun _ => True) r) (hwr : ∀ i : Nat, i < 8 → Wrs gs 4 (rgA (regsOf rs) i)) (zero : Int) :
    Calls Try.prog 78 #[.agg #[.slice a1 gs.length c1, .slice a2 0 c2], .agg #[.int .i64 5, .int .i64 dst, .int .i64 sa, .int .i64 sb, .int .i64 sc, .int .i64 sn], .slice ra 8 rc, .int .i64 zero] w fun e w' => PostW w w' e (stG (regsOf rs) zero ⟨5, dst, sa, sb, sc, sn⟩ gs).1 [] (stG (regsOf rs) zero ⟨5, dst, sa, sb, sc, sn⟩ gs).2 := by
  have ha := hs.a
  have hb := hs.b
  have hc := hs.c
  have hk := hs.k
  have hi := hs.i
  clear hs
  simp only at ha hb hc hk hi
  obtain ⟨na, rfl⟩ := Int.eq_ofNat_of_zero_le ha.1
  obtain ⟨nb, rfl⟩ := Int.eq_ofNat_of_zero_le hb.1
  obtain ⟨nc, rfl⟩ := Int.eq_ofNat_of_zero_le hc.1
  obtain ⟨bl, off, ax, cx, xs, rfl, hbl, ka, HX, HLx, hcx, hrx, _⟩ := hra.rv hok na (by omega)
  obtain ⟨bl2, off2, ay, cy, ys, e2, _, kb, HY, HLy, hcy, hry, _⟩ := hra.rv hok nb (by omega)
  cases e2
  obtain ⟨bl3, off3, az, cz, zs, e3, _, kc, HZ, HLz, hcz, hrz, _⟩ := hra.rv hok nc (by omega)
  cases e3
  have hwx := hwr na (by omega)
  have hwy := hwr nb (by omega)
  have hwz := hwr nc (by omega)
  rw [HX] at hwx
  rw [HY] at hwy
  rw [HZ] at hwz
  have hna : (na : Int) < 8 := by omega
  have hnb : (nb : Int) < 8 := by omega
  have hnc : (nc : Int) < 8 := by omega
  have h8a : (na : Int).tmod 8 = na := Int.tmod_eq_of_lt (by omega) (by omega)
  have h8b : (nb : Int).tmod 8 = nb := Int.tmod_eq_of_lt (by omega) (by omega)
  have nw0 : bl ≠ w.heap.size := by omega
  have nw1 : bl ≠ w.heap.size + 1 := by omega
  have nw2 : bl ≠ w.heap.size + 1 + 1 := by omega
  have nw3 : bl ≠ w.heap.size + 1 + 1 := by omega
  have HR := Lib.hid hr
  have HRX := Lib.hid hrx
  have HRY := Lib.hid hry
  have HRZ := Lib.hid hrz
  have HLX := Lib.hid HLx
  have HLY := Lib.hid HLy
  have HLZ := Lib.hid HLz
  have HWX := Lib.hid hwx
  have HWY := Lib.hid hwy
  have HWZ := Lib.hid hwz
  have HGT := Lib.hid hgt
  have HXX := Lib.hid HX
  have HYY := Lib.hid HY
  have HZZ := Lib.hid HZ
  clear hra hr hrx hry hrz HLx HLy HLz HX HY HZ hok hwr hwx hwy hwz hgt
  have HASK : Hid ((askB gs [] xs ys) = true) := by show _ = _; exact ask_of HGT.out h59 HWX.out HWY.out
  have HN2 : Hid (RdC w a2 (I64 [])) := .inl rfl
  have hgl : gs.length ≤ 1048576 := by omega
  have ka1 : (((w.alloc (.cells #[.slice a1 gs.length c1, .slice a2 0 c2] 29)).alloc (.cells #[.int .i64 5, .int .i64 dst, .int .i64 na, .int .i64 nb, .int .i64 nc, .int .i64 sn] 90)).alloc (.cells #[.slice none 0 0, .slice none 0 0] 29)).cell? ⟨bl, off + na, none⟩ = some (.slice ax 4 cx) := bel_keeps ((((Below.refl _ _).alloc (Nat.le_refl _) _).alloc (by simp) _).alloc (by simp; omega) _) ka
  have kb1 : (((w.alloc (.cells #[.slice a1 gs.length c1, .slice a2 0 c2] 29)).alloc (.cells #[.int .i64 5, .int .i64 dst, .int .i64 na, .int .i64 nb, .int .i64 nc, .int .i64 sn] 90)).alloc (.cells #[.slice none 0 0, .slice none 0 0] 29)).cell? ⟨bl, off + nb, none⟩ = some (.slice ay 4 cy) := bel_keeps ((((Below.refl _ _).alloc (Nat.le_refl _) _).alloc (by simp) _).alloc (by simp; omega) _) kb
  go_enter Try.func78, Try.ntmps78
  go_wp2_with fail
  obtain ⟨W, hW⟩ : ∃ X, X = ((w.alloc (.cells #[.slice a1 gs.length c1, .slice a2 0 c2] 29)).alloc (.cells #[.int .i64 5, .int .i64 dst, .int .i64 na, .int .i64 nb, .int .i64 nc, .int .i64 sn] 90)).alloc (.cells #[.slice none 0 0, .slice none 0 0] 29) := ⟨_, rfl⟩
  have hbW : Below w.heap.size w W := by rw [hW]; exact (((Below.refl _ _).alloc (Nat.le_refl _) _).alloc (by simp) _).alloc (by simp; omega) _
  have zW : w.heap.size + 3 ≤ W.heap.size := by rw [hW]; simp
  have k0 : W.cell? ⟨w.heap.size, 0, none⟩ = some (.slice a1 gs.length c1) := by rw [hW]; go_simp
  have k1 : W.cell? ⟨w.heap.size, 1, none⟩ = some (.slice a2 0 c2) := by rw [hW]; go_simp
  have k2 : W.cell? ⟨w.heap.size + 1, 0, none⟩ = some (.int .i64 5) := by rw [hW]; go_simp
  have k3 : W.cell? ⟨w.heap.size + 1, 1, none⟩ = some (.int .i64 dst) := by rw [hW]; go_simp
  have k4 : W.cell? ⟨w.heap.size + 1, 2, none⟩ = some (.int .i64 na) := by rw [hW]; go_simp
  have k5 : W.cell? ⟨w.heap.size + 1, 3, none⟩ = some (.int .i64 nb) := by rw [hW]; go_simp
  have k6 : W.cell? ⟨w.heap.size + 1, 4, none⟩ = some (.int .i64 nc) := by rw [hW]; go_simp
  have k7 : W.cell? ⟨w.heap.size + 1, 5, none⟩ = some (.int .i64 sn) := by rw [hW]; go_simp
  have k8 : W.cell? ⟨w.heap.size + 1 + 1, 0, none⟩ = some (.slice none 0 0) := by rw [hW]; go_simp
  have k9 : W.cell? ⟨w.heap.size + 1 + 1, 1, none⟩ = some (.slice none 0 0) := by rw [hW]; go_simp
  have f0 : W.frozen? ⟨w.heap.size + 1 + 1, 0, none⟩ = false := by rw [hW]; go_simp
  have f1 : W.frozen? ⟨w.heap.size + 1 + 1, 1, none⟩ = false := by rw [hW]; go_simp
  have kR : W.cell? ⟨bl, off + nc, none⟩ = some (.slice az 4 cz) := bel_keeps hbW kc
  rw [← hW]
  have HBW := Lib.hid hbW
  clear hW kc hbW ka kb ka1 kb1
  obtain ⟨PG, hPG⟩ : ∃ x, x = (mulP xs ys gs).1 := ⟨_, rfl⟩
  obtain ⟨PT, hPT⟩ : ∃ x, x = (mulP xs ys gs).2 := ⟨_, rfl⟩
  have HPG := Lib.hid hPG
  have HPT := Lib.hid hPT
  clear hPG hPT
  have hcc := iWordMul_any gs [] a1 a2 c1 c2 W hgl (by simp) (HR.out.below HBW.out) (HN2.out.below HBW.out) xs 4 ax cx HLX.out (by omega) (HRX.out.below HBW.out) ys 4 ay cy HLY.out (by omega) (HRY.out.below HBW.out)
  rw [HASK.out, wP_true, ← HPG.out, ← HPT.out] at hcc
  refine hcc.mono ?_
  clear hcc
  rintro e w2 ⟨b1, d1, b2, d2, g, c', rfl, h1, h2, hn1, h3, hn2, hn3, hb⟩
  have z2 := hb.size
  have qq0 := bel_keeps hb k0
  have qq1 := bel_keeps hb k1
  have qq2 := bel_keeps hb k2
  have qq3 := bel_keeps hb k3
  have qq4 := bel_keeps hb k4
  have qq5 := bel_keeps hb k5
  have qq6 := bel_keeps hb k6
  have qq7 := bel_keeps hb k7
  have qq8 := bel_keeps hb k8
  have qq9 := bel_keeps hb k9
  have g0 := bel_free hb (b := w.heap.size + 1 + 1) (o := 0) (by omega) f0
  have g1 := bel_free hb (b := w.heap.size + 1 + 1) (o := 1) (by omega) f1
  clear k0 k1 k2 k3 k4 k5 k6 k7 k8 k9 f0 f1 kR
  go_wp2_with fail
  refine bodyPost_ret (v := .tuple #[.agg #[.slice b1 PG.length d1, .slice b2 0 d2], .slice g PT.length c']) (by simp [results, Try.results78, go_sem, *]) rfl ?_
  have e1 : stG (regsOf rs) zero ⟨5, dst, na, nb, nc, sn⟩ gs = mulP xs ys gs := by simp only [stG, HXX.out, HYY.out, HZZ.out]; rfl
  rw [e1, ← HPG.out, ← HPT.out]
  have hbw := HBW.out
  exact ⟨b1, d1, b2, d2, g, c', rfl, ((h1.lo (by first | omega | (simp; omega))).keep fun x hx => by have hq := h1.blk x hx; (try simp at hq); exact (by (repeat (first | with_reducible exact Kp.refl _ _ | (with_reducible refine Kp.rng ?_ (by assumption) ?_) | (with_reducible refine Kp.below ?_ (by assumption)) | (with_reducible refine Kp.grown ?_ (by assumption) ?_) | (with_reducible refine Kp.alloc ?_ _) | (with_reducible refine Kp.drew ?_) | (with_reducible refine Kp.drewN ?_ _) | (with_reducible refine Kp.setCell ?_ _ ?_))) <;> (first | omega | (simp; done) | (simp; omega)))), ((h2.lo (by first | omega | (simp; omega))).keep fun x hx => by have hq := h2.blk x hx; (try simp at hq); exact (by (repeat (first | with_reducible exact Kp.refl _ _ | (with_reducible refine Kp.rng ?_ (by assumption) ?_) | (with_reducible refine Kp.below ?_ (by assumption)) | (with_reducible refine Kp.grown ?_ (by assumption) ?_) | (with_reducible refine Kp.alloc ?_ _) | (with_reducible refine Kp.drew ?_) | (with_reducible refine Kp.drewN ?_ _) | (with_reducible refine Kp.setCell ?_ _ ?_))) <;> (first | omega | (simp; done) | (simp; omega)))), hn1, ((h3.lo (by first | omega | (simp; omega))).keep fun x hx => by have hq := h3.blk x hx; (try simp at hq); exact (by (repeat (first | with_reducible exact Kp.refl _ _ | (with_reducible refine Kp.rng ?_ (by assumption) ?_) | (with_reducible refine Kp.below ?_ (by assumption)) | (with_reducible refine Kp.grown ?_ (by assumption) ?_) | (with_reducible refine Kp.alloc ?_ _) | (with_reducible refine Kp.drew ?_) | (with_reducible refine Kp.drewN ?_ _) | (with_reducible refine Kp.setCell ?_ _ ?_))) <;> (first | omega | (simp; done) | (simp; omega)))), hn2, hn3, (by (repeat (first | with_reducible exact Below.refl _ _ | (with_reducible refine bel_next ?_ ?_ (by assumption)) | (with_reducible refine Below.alloc ?_ ?_ _) | (with_reducible refine Below.drew ?_) | (with_reducible refine below_drewN ?_ _) | (with_reducible refine Below.setCell ?_ ?_ _))) <;> (first | omega | (simp; done) | (simp; omega)))⟩


set_option maxRecDepth 20000 in
set_option maxHeartbeats 4000000 in
theorem compiled6 (dst sa sb sc sn : Int) (hs : StC ⟨6, dst, sa, sb, sc, sn⟩) (gs : List Gt) (hgt : gtsOk 0 gs = true) (h59 : gs.length ≤ 5900) (a1 a2 : Option Addr) (c1 c2 : Nat) (w : World) (hr : RdC w a1 (gtCells gs)) (rs : List RV) (hl : rs.length = 8) (ra : Option Addr) (rc : Nat) (hra : RdC w ra (rvCells rs)) (hok : ∀ r ∈ rs, RvOk w (fun _ => True) r) (hwr : ∀ i : Nat, i < 8 → Wrs gs 4 (rgA (regsOf rs) i)) (zero : Int) :
    Calls Try.prog 78 #[.agg #[.slice a1 gs.length c1, .slice a2 0 c2], .agg #[.int .i64 6, .int .i64 dst, .int .i64 sa, .int .i64 sb, .int .i64 sc, .int .i64 sn], .slice ra 8 rc, .int .i64 zero] w fun e w' => PostW w w' e (stG (regsOf rs) zero ⟨6, dst, sa, sb, sc, sn⟩ gs).1 [] (stG (regsOf rs) zero ⟨6, dst, sa, sb, sc, sn⟩ gs).2 := by
  have ha := hs.a
  have hb := hs.b
  have hc := hs.c
  have hk := hs.k
  have hi := hs.i
  clear hs
  simp only at ha hb hc hk hi
  obtain ⟨na, rfl⟩ := Int.eq_ofNat_of_zero_le ha.1
  obtain ⟨nb, rfl⟩ := Int.eq_ofNat_of_zero_le hb.1
  obtain ⟨nc, rfl⟩ := Int.eq_ofNat_of_zero_le hc.1
  obtain ⟨bl, off, ax, cx, xs, rfl, hbl, ka, HX, HLx, hcx, hrx, _⟩ := hra.rv hok na (by omega)
  obtain ⟨bl2, off2, ay, cy, ys, e2, _, kb, HY, HLy, hcy, hry, _⟩ := hra.rv hok nb (by omega)
  cases e2
  obtain ⟨bl3, off3, az, cz, zs, e3, _, kc, HZ, HLz, hcz, hrz, _⟩ := hra.rv hok nc (by omega)
  cases e3
  have hwx := hwr na (by omega)
  have hwy := hwr nb (by omega)
  have hwz := hwr nc (by omega)
  rw [HX] at hwx
  rw [HY] at hwy
  rw [HZ] at hwz
  have hna : (na : Int) < 8 := by omega
  have hnb : (nb : Int) < 8 := by omega
  have hnc : (nc : Int) < 8 := by omega
  have h8a : (na : Int).tmod 8 = na := Int.tmod_eq_of_lt (by omega) (by omega)
  have h8b : (nb : Int).tmod 8 = nb := Int.tmod_eq_of_lt (by omega) (by omega)
  have nw0 : bl ≠ w.heap.size := by omega
  have nw1 : bl ≠ w.heap.size + 1 := by omega
  have nw2 : bl ≠ w.heap.size + 1 + 1 := by omega
  have nw3 : bl ≠ w.heap.size + 1 + 1 := by omega
  have HR := Lib.hid hr
  have HRX := Lib.hid hrx
  have HRY := Lib.hid hry
  have HRZ := Lib.hid hrz
  have HLX := Lib.hid HLx
  have HLY := Lib.hid HLy
  have HLZ := Lib.hid HLz
  have HWX := Lib.hid hwx
  have HWY := Lib.hid hwy
  have HWZ := Lib.hid hwz
  have HGT := Lib.hid hgt
  have HXX := Lib.hid HX
  have HYY := Lib.hid HY
  have HZZ := Lib.hid HZ
  clear hra hr hrx hry hrz HLx HLy HLz HX HY HZ hok hwr hwx hwy hwz hgt
  have HASK : Hid ((true) = true) := by show _ = _; rfl
  have HN2 : Hid (RdC w a2 (I64 [])) := .inl rfl
  have hgl : gs.length ≤ 1048576 := by omega
  have ka1 : (((w.alloc (.cells #[.slice a1 gs.length c1, .slice a2 0 c2] 29)).alloc (.cells #[.int .i64 6, .int .i64 dst, .int .i64 na, .int .i64 nb, .int .i64 nc, .int .i64 sn] 90)).alloc (.cells #[.slice none 0 0, .slice none 0 0] 29)).cell? ⟨bl, off + na, none⟩ = some (.slice ax 4 cx) := bel_keeps ((((Below.refl _ _).alloc (Nat.le_refl _) _).alloc (by simp) _).alloc (by simp; omega) _) ka
  have kb1 : (((w.alloc (.cells #[.slice a1 gs.length c1, .slice a2 0 c2] 29)).alloc (.cells #[.int .i64 6, .int .i64 dst, .int .i64 na, .int .i64 nb, .int .i64 nc, .int .i64 sn] 90)).alloc (.cells #[.slice none 0 0, .slice none 0 0] 29)).cell? ⟨bl, off + nb, none⟩ = some (.slice ay 4 cy) := bel_keeps ((((Below.refl _ _).alloc (Nat.le_refl _) _).alloc (by simp) _).alloc (by simp; omega) _) kb
  go_enter Try.func78, Try.ntmps78
  go_wp2_with fail
  obtain ⟨W, hW⟩ : ∃ X, X = ((w.alloc (.cells #[.slice a1 gs.length c1, .slice a2 0 c2] 29)).alloc (.cells #[.int .i64 6, .int .i64 dst, .int .i64 na, .int .i64 nb, .int .i64 nc, .int .i64 sn] 90)).alloc (.cells #[.slice none 0 0, .slice none 0 0] 29) := ⟨_, rfl⟩
  have hbW : Below w.heap.size w W := by rw [hW]; exact (((Below.refl _ _).alloc (Nat.le_refl _) _).alloc (by simp) _).alloc (by simp; omega) _
  have zW : w.heap.size + 3 ≤ W.heap.size := by rw [hW]; simp
  have k0 : W.cell? ⟨w.heap.size, 0, none⟩ = some (.slice a1 gs.length c1) := by rw [hW]; go_simp
  have k1 : W.cell? ⟨w.heap.size, 1, none⟩ = some (.slice a2 0 c2) := by rw [hW]; go_simp
  have k2 : W.cell? ⟨w.heap.size + 1, 0, none⟩ = some (.int .i64 6) := by rw [hW]; go_simp
  have k3 : W.cell? ⟨w.heap.size + 1, 1, none⟩ = some (.int .i64 dst) := by rw [hW]; go_simp
  have k4 : W.cell? ⟨w.heap.size + 1, 2, none⟩ = some (.int .i64 na) := by rw [hW]; go_simp
  have k5 : W.cell? ⟨w.heap.size + 1, 3, none⟩ = some (.int .i64 nb) := by rw [hW]; go_simp
  have k6 : W.cell? ⟨w.heap.size + 1, 4, none⟩ = some (.int .i64 nc) := by rw [hW]; go_simp
  have k7 : W.cell? ⟨w.heap.size + 1, 5, none⟩ = some (.int .i64 sn) := by rw [hW]; go_simp
  have k8 : W.cell? ⟨w.heap.size + 1 + 1, 0, none⟩ = some (.slice none 0 0) := by rw [hW]; go_simp
  have k9 : W.cell? ⟨w.heap.size + 1 + 1, 1, none⟩ = some (.slice none 0 0) := by rw [hW]; go_simp
  have f0 : W.frozen? ⟨w.heap.size + 1 + 1, 0, none⟩ = false := by rw [hW]; go_simp
  have f1 : W.frozen? ⟨w.heap.size + 1 + 1, 1, none⟩ = false := by rw [hW]; go_simp
  have kR : W.cell? ⟨bl, off + nc, none⟩ = some (.slice az 4 cz) := bel_keeps hbW kc
  rw [← hW]
  have HBW := Lib.hid hbW
  clear hW kc hbW ka kb ka1 kb1
  obtain ⟨PG, hPG⟩ : ∃ x, x = (bitsP 4 xs ys gs).1 := ⟨_, rfl⟩
  obtain ⟨PT, hPT⟩ : ∃ x, x = (bitsP 4 xs ys gs).2 := ⟨_, rfl⟩
  have HPG := Lib.hid hPG
  have HPT := Lib.hid hPT
  clear hPG hPT
  have hcc := ibitwise_any gs [] a1 a2 c1 c2 W hgl (by simp) (HR.out.below HBW.out) (HN2.out.below HBW.out) 4 xs 4 ax cx HLX.out (by omega) (HRX.out.below HBW.out) ys 4 ay cy HLY.out (by omega) (HRY.out.below HBW.out) rfl rfl h59
  rw [wP_true, ← HPG.out, ← HPT.out] at hcc
  refine hcc.mono ?_
  clear hcc
  rintro e w2 ⟨b1, d1, b2, d2, g, c', rfl, h1, h2, hn1, h3, hn2, hn3, hb⟩
  have z2 := hb.size
  have qq0 := bel_keeps hb k0
  have qq1 := bel_keeps hb k1
  have qq2 := bel_keeps hb k2
  have qq3 := bel_keeps hb k3
  have qq4 := bel_keeps hb k4
  have qq5 := bel_keeps hb k5
  have qq6 := bel_keeps hb k6
  have qq7 := bel_keeps hb k7
  have qq8 := bel_keeps hb k8
  have qq9 := bel_keeps hb k9
  have g0 := bel_free hb (b := w.heap.size + 1 + 1) (o := 0) (by omega) f0
  have g1 := bel_free hb (b := w.heap.size + 1 + 1) (o := 1) (by omega) f1
  clear k0 k1 k2 k3 k4 k5 k6 k7 k8 k9 f0 f1 kR
  go_wp2_with fail
  refine bodyPost_ret (v := .tuple #[.agg #[.slice b1 PG.length d1, .slice b2 0 d2], .slice g PT.length c']) (by simp [results, Try.results78, go_sem, *]) rfl ?_
  have e1 : stG (regsOf rs) zero ⟨6, dst, na, nb, nc, sn⟩ gs = bitsP 4 xs ys gs := by simp only [stG, HXX.out, HYY.out, HZZ.out]; rfl
  rw [e1, ← HPG.out, ← HPT.out]
  have hbw := HBW.out
  exact ⟨b1, d1, b2, d2, g, c', rfl, ((h1.lo (by first | omega | (simp; omega))).keep fun x hx => by have hq := h1.blk x hx; (try simp at hq); exact (by (repeat (first | with_reducible exact Kp.refl _ _ | (with_reducible refine Kp.rng ?_ (by assumption) ?_) | (with_reducible refine Kp.below ?_ (by assumption)) | (with_reducible refine Kp.grown ?_ (by assumption) ?_) | (with_reducible refine Kp.alloc ?_ _) | (with_reducible refine Kp.drew ?_) | (with_reducible refine Kp.drewN ?_ _) | (with_reducible refine Kp.setCell ?_ _ ?_))) <;> (first | omega | (simp; done) | (simp; omega)))), ((h2.lo (by first | omega | (simp; omega))).keep fun x hx => by have hq := h2.blk x hx; (try simp at hq); exact (by (repeat (first | with_reducible exact Kp.refl _ _ | (with_reducible refine Kp.rng ?_ (by assumption) ?_) | (with_reducible refine Kp.below ?_ (by assumption)) | (with_reducible refine Kp.grown ?_ (by assumption) ?_) | (with_reducible refine Kp.alloc ?_ _) | (with_reducible refine Kp.drew ?_) | (with_reducible refine Kp.drewN ?_ _) | (with_reducible refine Kp.setCell ?_ _ ?_))) <;> (first | omega | (simp; done) | (simp; omega)))), hn1, ((h3.lo (by first | omega | (simp; omega))).keep fun x hx => by have hq := h3.blk x hx; (try simp at hq); exact (by (repeat (first | with_reducible exact Kp.refl _ _ | (with_reducible refine Kp.rng ?_ (by assumption) ?_) | (with_reducible refine Kp.below ?_ (by assumption)) | (with_reducible refine Kp.grown ?_ (by assumption) ?_) | (with_reducible refine Kp.alloc ?_ _) | (with_reducible refine Kp.drew ?_) | (with_reducible refine Kp.drewN ?_ _) | (with_reducible refine Kp.setCell ?_ _ ?_))) <;> (first | omega | (simp; done) | (simp; omega)))), hn2, hn3, (by (repeat (first | with_reducible exact Below.refl _ _ | (with_reducible refine bel_next ?_ ?_ (by assumption)) | (with_reducible refine Below.alloc ?_ ?_ _) | (with_reducible refine Below.drew ?_) | (with_reducible refine below_drewN ?_ _) | (with_reducible refine Below.setCell ?_ ?_ _))) <;> (first | omega | (simp; done) | (simp; omega)))⟩


set_option maxRecDepth 20000 in
set_option maxHeartbeats 4000000 in
theorem compiled7 (dst sa sb sc sn : Int) (hs : StC ⟨7, dst, sa, sb, sc, sn⟩) (gs : List Gt) (hgt : gtsOk 0 gs = true) (h59 : gs.length ≤ 5900) (a1 a2 : Option Addr) (c1 c2 : Nat) (w : World) (hr : RdC w a1 (gtCells gs)) (rs : List RV) (hl : rs.length = 8) (ra : Option Addr) (rc : Nat) (hra : RdC w ra (rvCells rs)) (hok : ∀ r ∈ rs, RvOk w (fun _ => True) r) (hwr : ∀ i : Nat, i < 8 → Wrs gs 4 (rgA (regsOf rs) i)) (zero : Int) :
    Calls Try.prog 78 #[.agg #[.slice a1 gs.length c1, .slice a2 0 c2], .agg #[.int .i64 7, .int .i64 dst, .int .i64 sa, .int .i64 sb, .int .i64 sc, .int .i64 sn], .slice ra 8 rc, .int .i64 zero] w fun e w' => PostW w w' e (stG (regsOf rs) zero ⟨7, dst, sa, sb, sc, sn⟩ gs).1 [] (stG (regsOf rs) zero ⟨7, dst, sa, sb, sc, sn⟩ gs).2 := by
  have ha := hs.a
  have hb := hs.b
  have hc := hs.c
  have hk := hs.k
  have hi := hs.i
  clear hs
  simp only at ha hb hc hk hi
  obtain ⟨na, rfl⟩ := Int.eq_ofNat_of_zero_le ha.1
  obtain ⟨nb, rfl⟩ := Int.eq_ofNat_of_zero_le hb.1
  obtain ⟨nc, rfl⟩ := Int.eq_ofNat_of_zero_le hc.1
  obtain ⟨bl, off, ax, cx, xs, rfl, hbl, ka, HX, HLx, hcx, hrx, _⟩ := hra.rv hok na (by omega)
  obtain ⟨bl2, off2, ay, cy, ys, e2, _, kb, HY, HLy, hcy, hry, _⟩ := hra.rv hok nb (by omega)
  cases e2
  obtain ⟨bl3, off3, az, cz, zs, e3, _, kc, HZ, HLz, hcz, hrz, _⟩ := hra.rv hok nc (by omega)
  cases e3
  have hwx := hwr na (by omega)
  have hwy := hwr nb (by omega)
  have hwz := hwr nc (by omega)
  rw [HX] at hwx
  rw [HY] at hwy
  rw [HZ] at hwz
  have hna : (na : Int) < 8 := by omega
  have hnb : (nb : Int) < 8 := by omega
  have hnc : (nc : Int) < 8 := by omega
  have h8a : (na : Int).tmod 8 = na := Int.tmod_eq_of_lt (by omega) (by omega)
  have h8b : (nb : Int).tmod 8 = nb := Int.tmod_eq_of_lt (by omega) (by omega)
  have nw0 : bl ≠ w.heap.size := by omega
  have nw1 : bl ≠ w.heap.size + 1 := by omega
  have nw2 : bl ≠ w.heap.size + 1 + 1 := by omega
  have nw3 : bl ≠ w.heap.size + 1 + 1 := by omega
  have HR := Lib.hid hr
  have HRX := Lib.hid hrx
  have HRY := Lib.hid hry
  have HRZ := Lib.hid hrz
  have HLX := Lib.hid HLx
  have HLY := Lib.hid HLy
  have HLZ := Lib.hid HLz
  have HWX := Lib.hid hwx
  have HWY := Lib.hid hwy
  have HWZ := Lib.hid hwz
  have HGT := Lib.hid hgt
  have HXX := Lib.hid HX
  have HYY := Lib.hid HY
  have HZZ := Lib.hid HZ
  clear hra hr hrx hry hrz HLx HLy HLz HX HY HZ hok hwr hwx hwy hwz hgt
  have HASK : Hid ((true) = true) := by show _ = _; rfl
  have HN2 : Hid (RdC w a2 (I64 [])) := .inl rfl
  have hgl : gs.length ≤ 1048576 := by omega
  have ka1 : (((w.alloc (.cells #[.slice a1 gs.length c1, .slice a2 0 c2] 29)).alloc (.cells #[.int .i64 7, .int .i64 dst, .int .i64 na, .int .i64 nb, .int .i64 nc, .int .i64 sn] 90)).alloc (.cells #[.slice none 0 0, .slice none 0 0] 29)).cell? ⟨bl, off + na, none⟩ = some (.slice ax 4 cx) := bel_keeps ((((Below.refl _ _).alloc (Nat.le_refl _) _).alloc (by simp) _).alloc (by simp; omega) _) ka
  have kb1 : (((w.alloc (.cells #[.slice a1 gs.length c1, .slice a2 0 c2] 29)).alloc (.cells #[.int .i64 7, .int .i64 dst, .int .i64 na, .int .i64 nb, .int .i64 nc, .int .i64 sn] 90)).alloc (.cells #[.slice none 0 0, .slice none 0 0] 29)).cell? ⟨bl, off + nb, none⟩ = some (.slice ay 4 cy) := bel_keeps ((((Below.refl _ _).alloc (Nat.le_refl _) _).alloc (by simp) _).alloc (by simp; omega) _) kb
  go_enter Try.func78, Try.ntmps78
  go_wp2_with fail
  obtain ⟨W, hW⟩ : ∃ X, X = ((w.alloc (.cells #[.slice a1 gs.length c1, .slice a2 0 c2] 29)).alloc (.cells #[.int .i64 7, .int .i64 dst, .int .i64 na, .int .i64 nb, .int .i64 nc, .int .i64 sn] 90)).alloc (.cells #[.slice none 0 0, .slice none 0 0] 29) := ⟨_, rfl⟩
  have hbW : Below w.heap.size w W := by rw [hW]; exact (((Below.refl _ _).alloc (Nat.le_refl _) _).alloc (by simp) _).alloc (by simp; omega) _
  have zW : w.heap.size + 3 ≤ W.heap.size := by rw [hW]; simp
  have k0 : W.cell? ⟨w.heap.size, 0, none⟩ = some (.slice a1 gs.length c1) := by rw [hW]; go_simp
  have k1 : W.cell? ⟨w.heap.size, 1, none⟩ = some (.slice a2 0 c2) := by rw [hW]; go_simp
  have k2 : W.cell? ⟨w.heap.size + 1, 0, none⟩ = some (.int .i64 7) := by rw [hW]; go_simp
  have k3 : W.cell? ⟨w.heap.size + 1, 1, none⟩ = some (.int .i64 dst) := by rw [hW]; go_simp
  have k4 : W.cell? ⟨w.heap.size + 1, 2, none⟩ = some (.int .i64 na) := by rw [hW]; go_simp
  have k5 : W.cell? ⟨w.heap.size + 1, 3, none⟩ = some (.int .i64 nb) := by rw [hW]; go_simp
  have k6 : W.cell? ⟨w.heap.size + 1, 4, none⟩ = some (.int .i64 nc) := by rw [hW]; go_simp
  have k7 : W.cell? ⟨w.heap.size + 1, 5, none⟩ = some (.int .i64 sn) := by rw [hW]; go_simp
  have k8 : W.cell? ⟨w.heap.size + 1 + 1, 0, none⟩ = some (.slice none 0 0) := by rw [hW]; go_simp
  have k9 : W.cell? ⟨w.heap.size + 1 + 1, 1, none⟩ = some (.slice none 0 0) := by rw [hW]; go_simp
  have f0 : W.frozen? ⟨w.heap.size + 1 + 1, 0, none⟩ = false := by rw [hW]; go_simp
  have f1 : W.frozen? ⟨w.heap.size + 1 + 1, 1, none⟩ = false := by rw [hW]; go_simp
  have kR : W.cell? ⟨bl, off + nc, none⟩ = some (.slice az 4 cz) := bel_keeps hbW kc
  rw [← hW]
  have HBW := Lib.hid hbW
  clear hW kc hbW ka kb ka1 kb1
  obtain ⟨PG, hPG⟩ : ∃ x, x = (bitsP 3 xs ys gs).1 := ⟨_, rfl⟩
  obtain ⟨PT, hPT⟩ : ∃ x, x = (bitsP 3 xs ys gs).2 := ⟨_, rfl⟩
  have HPG := Lib.hid hPG
  have HPT := Lib.hid hPT
  clear hPG hPT
  have hcc := ibitwise_any gs [] a1 a2 c1 c2 W hgl (by simp) (HR.out.below HBW.out) (HN2.out.below HBW.out) 3 xs 4 ax cx HLX.out (by omega) (HRX.out.below HBW.out) ys 4 ay cy HLY.out (by omega) (HRY.out.below HBW.out) rfl rfl h59
  rw [wP_true, ← HPG.out, ← HPT.out] at hcc
  refine hcc.mono ?_
  clear hcc
  rintro e w2 ⟨b1, d1, b2, d2, g, c', rfl, h1, h2, hn1, h3, hn2, hn3, hb⟩
  have z2 := hb.size
  have qq0 := bel_keeps hb k0
  have qq1 := bel_keeps hb k1
  have qq2 := bel_keeps hb k2
  have qq3 := bel_keeps hb k3
  have qq4 := bel_keeps hb k4
  have qq5 := bel_keeps hb k5
  have qq6 := bel_keeps hb k6
  have qq7 := bel_keeps hb k7
  have qq8 := bel_keeps hb k8
  have qq9 := bel_keeps hb k9
  have g0 := bel_free hb (b := w.heap.size + 1 + 1) (o := 0) (by omega) f0
  have g1 := bel_free hb (b := w.heap.size + 1 + 1) (o := 1) (by omega) f1
  clear k0 k1 k2 k3 k4 k5 k6 k7 k8 k9 f0 f1 kR
  go_wp2_with fail
  refine bodyPost_ret (v := .tuple #[.agg #[.slice b1 PG.length d1, .slice b2 0 d2], .slice g PT.length c']) (by simp [results, Try.results78, go_sem, *]) rfl ?_
  have e1 : stG (regsOf rs) zero ⟨7, dst, na, nb, nc, sn⟩ gs = bitsP 3 xs ys gs := by simp only [stG, HXX.out, HYY.out, HZZ.out]; rfl
  rw [e1, ← HPG.out, ← HPT.out]
  have hbw := HBW.out
  exact ⟨b1, d1, b2, d2, g, c', rfl, ((h1.lo (by first | omega | (simp; omega))).keep fun x hx => by have hq := h1.blk x hx; (try simp at hq); exact (by (repeat (first | with_reducible exact Kp.refl _ _ | (with_reducible refine Kp.rng ?_ (by assumption) ?_) | (with_reducible refine Kp.below ?_ (by assumption)) | (with_reducible refine Kp.grown ?_ (by assumption) ?_) | (with_reducible refine Kp.alloc ?_ _) | (with_reducible refine Kp.drew ?_) | (with_reducible refine Kp.drewN ?_ _) | (with_reducible refine Kp.setCell ?_ _ ?_))) <;> (first | omega | (simp; done) | (simp; omega)))), ((h2.lo (by first | omega | (simp; omega))).keep fun x hx => by have hq := h2.blk x hx; (try simp at hq); exact (by (repeat (first | with_reducible exact Kp.refl _ _ | (with_reducible refine Kp.rng ?_ (by assumption) ?_) | (with_reducible refine Kp.below ?_ (by assumption)) | (with_reducible refine Kp.grown ?_ (by assumption) ?_) | (with_reducible refine Kp.alloc ?_ _) | (with_reducible refine Kp.drew ?_) | (with_reducible refine Kp.drewN ?_ _) | (with_reducible refine Kp.setCell ?_ _ ?_))) <;> (first | omega | (simp; done) | (simp; omega)))), hn1, ((h3.lo (by first | omega | (simp; omega))).keep fun x hx => by have hq := h3.blk x hx; (try simp at hq); exact (by (repeat (first | with_reducible exact Kp.refl _ _ | (with_reducible refine Kp.rng ?_ (by assumption) ?_) | (with_reducible refine Kp.below ?_ (by assumption)) | (with_reducible refine Kp.grown ?_ (by assumption) ?_) | (with_reducible refine Kp.alloc ?_ _) | (with_reducible refine Kp.drew ?_) | (with_reducible refine Kp.drewN ?_ _) | (with_reducible refine Kp.setCell ?_ _ ?_))) <;> (first | omega | (simp; done) | (simp; omega)))), hn2, hn3, (by (repeat (first | with_reducible exact Below.refl _ _ | (with_reducible refine bel_next ?_ ?_ (by assumption)) | (with_reducible refine Below.alloc ?_ ?_ _) | (with_reducible refine Below.drew ?_) | (with_reducible refine below_drewN ?_ _) | (with_reducible refine Below.setCell ?_ ?_ _))) <;> (first | omega | (simp; done) | (simp; omega)))⟩


set_option maxRecDepth 20000 in
set_option maxHeartbeats 4000000 in
theorem compiled8 (dst sa sb sc sn : Int) (hs : StC ⟨8, dst, sa, sb, sc, sn⟩) (gs : List Gt) (hgt : gtsOk 0 gs = true) (h59 : gs.length ≤ 5900) (a1 a2 : Option Addr) (c1 c2 : Nat) (w : World) (hr : RdC w a1 (gtCells gs)) (rs : List RV) (hl : rs.length = 8) (ra : Option Addr) (rc : Nat) (hra : RdC w ra (rvCells rs)) (hok : ∀ r ∈ rs, RvOk w (fun _ => True) r) (hwr : ∀ i : Nat, i < 8 → Wrs gs 4 (rgA (regsOf rs) i)) (zero : Int) :
    Calls Try.prog 78 #[.agg #[.slice a1 gs.length c1, .slice a2 0 c2], .agg #[.int .i64 8, .int .i64 dst, .int .i64 sa, .int .i64 sb, .int .i64 sc, .int .i64 sn], .slice ra 8 rc, .int .i64 zero] w fun e w' => PostW w w' e (stG (regsOf rs) zero ⟨8, dst, sa, sb, sc, sn⟩ gs).1 [] (stG (regsOf rs) zero ⟨8, dst, sa, sb, sc, sn⟩ gs).2 := by
  have ha := hs.a
  have hb := hs.b
  have hc := hs.c
  have hk := hs.k
  have hi := hs.i
  clear hs
  simp only at ha hb hc hk hi
  obtain ⟨na, rfl⟩ := Int.eq_ofNat_of_zero_le ha.1
  obtain ⟨nb, rfl⟩ := Int.eq_ofNat_of_zero_le hb.1
  obtain ⟨nc, rfl⟩ := Int.eq_ofNat_of_zero_le hc.1
  obtain ⟨bl, off, ax, cx, xs, rfl, hbl, ka, HX, HLx, hcx, hrx, _⟩ := hra.rv hok na (by omega)
  obtain ⟨bl2, off2, ay, cy, ys, e2, _, kb, HY, HLy, hcy, hry, _⟩ := hra.rv hok nb (by omega)
  cases e2
  obtain ⟨bl3, off3, az, cz, zs, e3, _, kc, HZ, HLz, hcz, hrz, _⟩ := hra.rv hok nc (by omega)
  cases e3
  have hwx := hwr na (by omega)
  have hwy := hwr nb (by omega)
  have hwz := hwr nc (by omega)
  rw [HX] at hwx
  rw [HY] at hwy
  rw [HZ] at hwz
  have hna : (na : Int) < 8 := by omega
  have hnb : (nb : Int) < 8 := by omega
  have hnc : (nc : Int) < 8 := by omega
  have h8a : (na : Int).tmod 8 = na := Int.tmod_eq_of_lt (by omega) (by omega)
  have h8b : (nb : Int).tmod 8 = nb := Int.tmod_eq_of_lt (by omega) (by omega)
  have nw0 : bl ≠ w.heap.size := by omega
  have nw1 : bl ≠ w.heap.size + 1 := by omega
  have nw2 : bl ≠ w.heap.size + 1 + 1 := by omega
  have nw3 : bl ≠ w.heap.size + 1 + 1 := by omega
  have HR := Lib.hid hr
  have HRX := Lib.hid hrx
  have HRY := Lib.hid hry
  have HRZ := Lib.hid hrz
  have HLX := Lib.hid HLx
  have HLY := Lib.hid HLy
  have HLZ := Lib.hid HLz
  have HWX := Lib.hid hwx
  have HWY := Lib.hid hwy
  have HWZ := Lib.hid hwz
  have HGT := Lib.hid hgt
  have HXX := Lib.hid HX
  have HYY := Lib.hid HY
  have HZZ := Lib.hid HZ
  clear hra hr hrx hry hrz HLx HLy HLz HX HY HZ hok hwr hwx hwy hwz hgt
  have HASK : Hid ((askB gs [] xs ys) = true) := by show _ = _; exact ask_of HGT.out h59 HWX.out HWY.out
  have HN2 : Hid (RdC w a2 (I64 [])) := .inl rfl
  have hgl : gs.length ≤ 1048576 := by omega
  have ka1 : (((w.alloc (.cells #[.slice a1 gs.length c1, .slice a2 0 c2] 29)).alloc (.cells #[.int .i64 8, .int .i64 dst, .int .i64 na, .int .i64 nb, .int .i64 nc, .int .i64 sn] 90)).alloc (.cells #[.slice none 0 0, .slice none 0 0] 29)).cell? ⟨bl, off + na, none⟩ = some (.slice ax 4 cx) := bel_keeps ((((Below.refl _ _).alloc (Nat.le_refl _) _).alloc (by simp) _).alloc (by simp; omega) _) ka
  have kb1 : (((w.alloc (.cells #[.slice a1 gs.length c1, .slice a2 0 c2] 29)).alloc (.cells #[.int .i64 8, .int .i64 dst, .int .i64 na, .int .i64 nb, .int .i64 nc, .int .i64 sn] 90)).alloc (.cells #[.slice none 0 0, .slice none 0 0] 29)).cell? ⟨bl, off + nb, none⟩ = some (.slice ay 4 cy) := bel_keeps ((((Below.refl _ _).alloc (Nat.le_refl _) _).alloc (by simp) _).alloc (by simp; omega) _) kb
  go_enter Try.func78, Try.ntmps78
  go_wp2_with fail
  obtain ⟨W, hW⟩ : ∃ X, X = ((w.alloc (.cells #[.slice a1 gs.length c1, .slice a2 0 c2] 29)).alloc (.cells #[.int .i64 8, .int .i64 dst, .int .i64 na, .int .i64 nb, .int .i64 nc, .int .i64 sn] 90)).alloc (.cells #[.slice none 0 0, .slice none 0 0] 29) := ⟨_, rfl⟩
  have hbW : Below w.heap.size w W := by rw [hW]; exact (((Below.refl _ _).alloc (Nat.le_refl _) _).alloc (by simp) _).alloc (by simp; omega) _
  have zW : w.heap.size + 3 ≤ W.heap.size := by rw [hW]; simp
  have k0 : W.cell? ⟨w.heap.size, 0, none⟩ = some (.slice a1 gs.length c1) := by rw [hW]; go_simp
  have k1 : W.cell? ⟨w.heap.size, 1, none⟩ = some (.slice a2 0 c2) := by rw [hW]; go_simp
  have k2 : W.cell? ⟨w.heap.size + 1, 0, none⟩ = some (.int .i64 8) := by rw [hW]; go_simp
  have k3 : W.cell? ⟨w.heap.size + 1, 1, none⟩ = some (.int .i64 dst) := by rw [hW]; go_simp
  have k4 : W.cell? ⟨w.heap.size + 1, 2, none⟩ = some (.int .i64 na) := by rw [hW]; go_simp
  have k5 : W.cell? ⟨w.heap.size + 1, 3, none⟩ = some (.int .i64 nb) := by rw [hW]; go_simp
  have k6 : W.cell? ⟨w.heap.size + 1, 4, none⟩ = some (.int .i64 nc) := by rw [hW]; go_simp
  have k7 : W.cell? ⟨w.heap.size + 1, 5, none⟩ = some (.int .i64 sn) := by rw [hW]; go_simp
  have k8 : W.cell? ⟨w.heap.size + 1 + 1, 0, none⟩ = some (.slice none 0 0) := by rw [hW]; go_simp
  have k9 : W.cell? ⟨w.heap.size + 1 + 1, 1, none⟩ = some (.slice none 0 0) := by rw [hW]; go_simp
  have f0 : W.frozen? ⟨w.heap.size + 1 + 1, 0, none⟩ = false := by rw [hW]; go_simp
  have f1 : W.frozen? ⟨w.heap.size + 1 + 1, 1, none⟩ = false := by rw [hW]; go_simp
  have kR : W.cell? ⟨bl, off + nc, none⟩ = some (.slice az 4 cz) := bel_keeps hbW kc
  rw [← hW]
  have HBW := Lib.hid hbW
  clear hW kc hbW ka kb ka1 kb1
  obtain ⟨PG, hPG⟩ : ∃ x, x = (lessP xs ys gs).1 := ⟨_, rfl⟩
  obtain ⟨PT, hPT⟩ : ∃ x, x = (lessP xs ys gs).2 := ⟨_, rfl⟩
  have HPG := Lib.hid hPG
  have HPT := Lib.hid hPT
  clear hPG hPT
  have hcc := iWordLess_any gs [] a1 a2 c1 c2 W hgl (by simp) (HR.out.below HBW.out) (HN2.out.below HBW.out) xs 4 ax cx HLX.out (by omega) (HRX.out.below HBW.out) ys 4 ay cy HLY.out (by omega) (HRY.out.below HBW.out)
  rw [HASK.out, wP_true, ← HPG.out, ← HPT.out] at hcc
  refine hcc.mono ?_
  clear hcc
  rintro e w2 ⟨b1, d1, b2, d2, rfl, h1, h2, hn1, hb⟩
  have z2 := hb.size
  have qq0 := bel_keeps hb k0
  have qq1 := bel_keeps hb k1
  have qq2 := bel_keeps hb k2
  have qq3 := bel_keeps hb k3
  have qq4 := bel_keeps hb k4
  have qq5 := bel_keeps hb k5
  have qq6 := bel_keeps hb k6
  have qq7 := bel_keeps hb k7
  have qq8 := bel_keeps hb k8
  have qq9 := bel_keeps hb k9
  have g0 := bel_free hb (b := w.heap.size + 1 + 1) (o := 0) (by omega) f0
  have g1 := bel_free hb (b := w.heap.size + 1 + 1) (o := 1) (by omega) f1
  clear k0 k1 k2 k3 k4 k5 k6 k7 k8 k9 f0 f1 kR
  have r0 : ((w2.alloc (.cells #[.slice b1 PG.length d1, .slice b2 0 d2] 29)).alloc (.cells #[.int .i64 PT, .int .i64 zero, .int .i64 zero, .int .i64 zero] 3)).cell? ⟨w.heap.size + 1 + 1, 0, none⟩ = some (.slice none 0 0) := bel_keeps (((Below.refl _ _).alloc (Nat.le_refl _) _).alloc (by simp) _) qq8
  have s0 : ((w2.alloc (.cells #[.slice b1 PG.length d1, .slice b2 0 d2] 29)).alloc (.cells #[.int .i64 PT, .int .i64 zero, .int .i64 zero, .int .i64 zero] 3)).frozen? ⟨w.heap.size + 1 + 1, 0, none⟩ = false := bel_free (((Below.refl _ _).alloc (Nat.le_refl _) _).alloc (by simp) _) (by omega) g0
  have r1 : ((w2.alloc (.cells #[.slice b1 PG.length d1, .slice b2 0 d2] 29)).alloc (.cells #[.int .i64 PT, .int .i64 zero, .int .i64 zero, .int .i64 zero] 3)).cell? ⟨w.heap.size + 1 + 1, 1, none⟩ = some (.slice none 0 0) := bel_keeps (((Below.refl _ _).alloc (Nat.le_refl _) _).alloc (by simp) _) qq9
  have s1 : ((w2.alloc (.cells #[.slice b1 PG.length d1, .slice b2 0 d2] 29)).alloc (.cells #[.int .i64 PT, .int .i64 zero, .int .i64 zero, .int .i64 zero] 3)).frozen? ⟨w.heap.size + 1 + 1, 1, none⟩ = false := bel_free (((Below.refl _ _).alloc (Nat.le_refl _) _).alloc (by simp) _) (by omega) g1
  go_wp2_with fail
  refine bodyPost_ret (v := .tuple #[.agg #[.slice b1 PG.length d1, .slice b2 0 d2], .slice (some ⟨w2.heap.size + 1, 0, none⟩) 4 4]) (by simp [results, Try.results78, go_sem, *]) rfl ?_
  have e1 : stG (regsOf rs) zero ⟨8, dst, na, nb, nc, sn⟩ gs = ((lessP xs ys gs).1, [(lessP xs ys gs).2, zero, zero, zero]) := by simp only [stG, HXX.out, HYY.out, HZZ.out]; rfl
  rw [e1, ← HPG.out, ← HPT.out]
  have hbw := HBW.out
  have hq1 := fun x (hx : b1 = some x) => h1.blk x hx
  have hq2 := fun x (hx : b2 = some x) => h2.blk x hx
  refine ⟨b1, d1, b2, d2, some ⟨w2.heap.size + 1, 0, none⟩, 4, rfl, ((h1.lo (by first | omega | (simp; omega))).keep fun x hx => by have hq := h1.blk x hx; (try simp at hq); exact (by (repeat (first | with_reducible exact Kp.refl _ _ | (with_reducible refine Kp.rng ?_ (by assumption) ?_) | (with_reducible refine Kp.below ?_ (by assumption)) | (with_reducible refine Kp.grown ?_ (by assumption) ?_) | (with_reducible refine Kp.alloc ?_ _) | (with_reducible refine Kp.drew ?_) | (with_reducible refine Kp.drewN ?_ _) | (with_reducible refine Kp.setCell ?_ _ ?_))) <;> (first | omega | (simp; done) | (simp; omega)))), ((h2.lo (by first | omega | (simp; omega))).keep fun x hx => by have hq := h2.blk x hx; (try simp at hq); exact (by (repeat (first | with_reducible exact Kp.refl _ _ | (with_reducible refine Kp.rng ?_ (by assumption) ?_) | (with_reducible refine Kp.below ?_ (by assumption)) | (with_reducible refine Kp.grown ?_ (by assumption) ?_) | (with_reducible refine Kp.alloc ?_ _) | (with_reducible refine Kp.drew ?_) | (with_reducible refine Kp.drewN ?_ _) | (with_reducible refine Kp.setCell ?_ _ ?_))) <;> (first | omega | (simp; done) | (simp; omega)))), hn1, ?_, ?_, ?_, (by (repeat (first | with_reducible exact Below.refl _ _ | (with_reducible refine bel_next ?_ ?_ (by assumption)) | (with_reducible refine Below.alloc ?_ ?_ _) | (with_reducible refine Below.drew ?_) | (with_reducible refine below_drewN ?_ _) | (with_reducible refine Below.setCell ?_ ?_ _))) <;> (first | omega | (simp; done) | (simp; omega)))⟩
  · have ho4 := own_four (w2.alloc (.cells #[.slice b1 PG.length d1, .slice b2 0 d2] 29)) PT zero zero zero
    simp only [World.size_alloc] at ho4
    refine (ho4.lo (lo' := w.heap.size) (by omega)).keep fun x hx => ?_
    obtain rfl := Option.some.inj hx
    exact (by (repeat (first | with_reducible exact Kp.refl _ _ | (with_reducible refine Kp.rng ?_ (by assumption) ?_) | (with_reducible refine Kp.below ?_ (by assumption)) | (with_reducible refine Kp.grown ?_ (by assumption) ?_) | (with_reducible refine Kp.alloc ?_ _) | (with_reducible refine Kp.drew ?_) | (with_reducible refine Kp.drewN ?_ _) | (with_reducible refine Kp.setCell ?_ _ ?_))) <;> (first | omega | (simp; done) | (simp; omega)))
  · intro x y hx hy e
    obtain rfl := Option.some.inj hy
    have := hq1 x hx
    simp at e; omega
  · intro x y hx hy e
    obtain rfl := Option.some.inj hy
    have := hq2 x hx
    simp at e; omega


set_option maxRecDepth 20000 in
set_option maxHeartbeats 4000000 in
theorem compiled9 (dst sa sb sc sn : Int) (hs : StC ⟨9, dst, sa, sb, sc, sn⟩) (gs : List Gt) (hgt : gtsOk 0 gs = true) (h59 : gs.length ≤ 5900) (a1 a2 : Option Addr) (c1 c2 : Nat) (w : World) (hr : RdC w a1 (gtCells gs)) (rs : List RV) (hl : rs.length = 8) (ra : Option Addr) (rc : Nat) (hra : RdC w ra (rvCells rs)) (hok : ∀ r ∈ rs, RvOk w (fun _ => True) r) (hwr : ∀ i : Nat, i < 8 → Wrs gs 4 (rgA (regsOf rs) i)) (zero : Int) :
    Calls Try.prog 78 #[.agg #[.slice a1 gs.length c1, .slice a2 0 c2], .agg #[.int .i64 9, .int .i64 dst, .int .i64 sa, .int .i64 sb, .int .i64 sc, .int .i64 sn], .slice ra 8 rc, .int .i64 zero] w fun e w' => PostW w w' e (stG (regsOf rs) zero ⟨9, dst, sa, sb, sc, sn⟩ gs).1 [] (stG (regsOf rs) zero ⟨9, dst, sa, sb, sc, sn⟩ gs).2 := by
  have ha := hs.a
  have hb := hs.b
  have hc := hs.c
  have hk := hs.k
  have hi := hs.i
  clear hs
  simp only at ha hb hc hk hi
  obtain ⟨na, rfl⟩ := Int.eq_ofNat_of_zero_le ha.1
  obtain ⟨nb, rfl⟩ := Int.eq_ofNat_of_zero_le hb.1
  obtain ⟨nc, rfl⟩ := Int.eq_ofNat_of_zero_le hc.1
  obtain ⟨bl, off, ax, cx, xs, rfl, hbl, ka, HX, HLx, hcx, hrx, _⟩ := hra.rv hok na (by omega)
  obtain ⟨bl2, off2, ay, cy, ys, e2, _, kb, HY, HLy, hcy, hry, _⟩ := hra.rv hok nb (by omega)
  cases e2
  obtain ⟨bl3, off3, az, cz, zs, e3, _, kc, HZ, HLz, hcz, hrz, _⟩ := hra.rv hok nc (by omega)
  cases e3
  have hwx := hwr na (by omega)
  have hwy := hwr nb (by omega)
  have hwz := hwr nc (by omega)
  rw [HX] at hwx
  rw [HY] at hwy
  rw [HZ] at hwz
  have hna : (na : Int) < 8 := by omega
  have hnb : (nb : Int) < 8 := by omega
  have hnc : (nc : Int) < 8 := by omega
  have h8a : (na : Int).tmod 8 = na := Int.tmod_eq_of_lt (by omega) (by omega)
  have h8b : (nb : Int).tmod 8 = nb := Int.tmod_eq_of_lt (by omega) (by omega)
  have nw0 : bl ≠ w.heap.size := by omega
  have nw1 : bl ≠ w.heap.size + 1 := by omega
  have nw2 : bl ≠ w.heap.size + 1 + 1 := by omega
  have nw3 : bl ≠ w.heap.size + 1 + 1 := by omega
  have HR := Lib.hid hr
  have HRX := Lib.hid hrx
  have HRY := Lib.hid hry
  have HRZ := Lib.hid hrz
  have HLX := Lib.hid HLx
  have HLY := Lib.hid HLy
  have HLZ := Lib.hid HLz
  have HWX := Lib.hid hwx
  have HWY := Lib.hid hwy
  have HWZ := Lib.hid hwz
  have HGT := Lib.hid hgt
  have HXX := Lib.hid HX
  have HYY := Lib.hid HY
  have HZZ := Lib.hid HZ
  clear hra hr hrx hry hrz HLx HLy HLz HX HY HZ hok hwr hwx hwy hwz hgt
  have HASK : Hid ((askB gs [] xs ys) = true) := by show _ = _; exact ask_of HGT.out h59 HWX.out HWY.out
  have HN2 : Hid (RdC w a2 (I64 [])) := .inl rfl
  have hgl : gs.length ≤ 1048576 := by omega
  have ka1 : (((w.alloc (.cells #[.slice a1 gs.length c1, .slice a2 0 c2] 29)).alloc (.cells #[.int .i64 9, .int .i64 dst, .int .i64 na, .int .i64 nb, .int .i64 nc, .int .i64 sn] 90)).alloc (.cells #[.slice none 0 0, .slice none 0 0] 29)).cell? ⟨bl, off + na, none⟩ = some (.slice ax 4 cx) := bel_keeps ((((Below.refl _ _).alloc (Nat.le_refl _) _).alloc (by simp) _).alloc (by simp; omega) _) ka
  have kb1 : (((w.alloc (.cells #[.slice a1 gs.length c1, .slice a2 0 c2] 29)).alloc (.cells #[.int .i64 9, .int .i64 dst, .int .i64 na, .int .i64 nb, .int .i64 nc, .int .i64 sn] 90)).alloc (.cells #[.slice none 0 0, .slice none 0 0] 29)).cell? ⟨bl, off + nb, none⟩ = some (.slice ay 4 cy) := bel_keeps ((((Below.refl _ _).alloc (Nat.le_refl _) _).alloc (by simp) _).alloc (by simp; omega) _) kb
  go_enter Try.func78, Try.ntmps78
  go_wp2_with fail
  obtain ⟨W, hW⟩ : ∃ X, X = ((w.alloc (.cells #[.slice a1 gs.length c1, .slice a2 0 c2] 29)).alloc (.cells #[.int .i64 9, .int .i64 dst, .int .i64 na, .int .i64 nb, .int .i64 nc, .int .i64 sn] 90)).alloc (.cells #[.slice none 0 0, .slice none 0 0] 29) := ⟨_, rfl⟩
  have hbW : Below w.heap.size w W := by rw [hW]; exact (((Below.refl _ _).alloc (Nat.le_refl _) _).alloc (by simp) _).alloc (by simp; omega) _
  have zW : w.heap.size + 3 ≤ W.heap.size := by rw [hW]; simp
  have k0 : W.cell? ⟨w.heap.size, 0, none⟩ = some (.slice a1 gs.length c1) := by rw [hW]; go_simp
  have k1 : W.cell? ⟨w.heap.size, 1, none⟩ = some (.slice a2 0 c2) := by rw [hW]; go_simp
  have k2 : W.cell? ⟨w.heap.size + 1, 0, none⟩ = some (.int .i64 9) := by rw [hW]; go_simp
  have k3 : W.cell? ⟨w.heap.size + 1, 1, none⟩ = some (.int .i64 dst) := by rw [hW]; go_simp
  have k4 : W.cell? ⟨w.heap.size + 1, 2, none⟩ = some (.int .i64 na) := by rw [hW]; go_simp
  have k5 : W.cell? ⟨w.heap.size + 1, 3, none⟩ = some (.int .i64 nb) := by rw [hW]; go_simp
  have k6 : W.cell? ⟨w.heap.size + 1, 4, none⟩ = some (.int .i64 nc) := by rw [hW]; go_simp
  have k7 : W.cell? ⟨w.heap.size + 1, 5, none⟩ = some (.int .i64 sn) := by rw [hW]; go_simp
  have k8 : W.cell? ⟨w.heap.size + 1 + 1, 0, none⟩ = some (.slice none 0 0) := by rw [hW]; go_simp
  have k9 : W.cell? ⟨w.heap.size + 1 + 1, 1, none⟩ = some (.slice none 0 0) := by rw [hW]; go_simp
  have f0 : W.frozen? ⟨w.heap.size + 1 + 1, 0, none⟩ = false := by rw [hW]; go_simp
  have f1 : W.frozen? ⟨w.heap.size + 1 + 1, 1, none⟩ = false := by rw [hW]; go_simp
  have kR : W.cell? ⟨bl, off + nc, none⟩ = some (.slice az 4 cz) := bel_keeps hbW kc
  rw [← hW]
  have HBW := Lib.hid hbW
  clear hW kc hbW ka kb ka1 kb1
  obtain ⟨PG, hPG⟩ : ∃ x, x = (equalP xs ys gs).1 := ⟨_, rfl⟩
  obtain ⟨PT, hPT⟩ : ∃ x, x = (equalP xs ys gs).2 := ⟨_, rfl⟩
  have HPG := Lib.hid hPG
  have HPT := Lib.hid hPT
  clear hPG hPT
  have hcc := iWordEqual_any gs [] a1 a2 c1 c2 W hgl (by simp) (HR.out.below HBW.out) (HN2.out.below HBW.out) xs 4 ax cx HLX.out (by omega) (HRX.out.below HBW.out) ys 4 ay cy HLY.out (by omega) (HRY.out.below HBW.out)
  rw [HASK.out, wP_true, ← HPG.out, ← HPT.out] at hcc
  refine hcc.mono ?_
  clear hcc
  rintro e w2 ⟨b1, d1, b2, d2, rfl, h1, h2, hn1, hb⟩
  have z2 := hb.size
  have qq0 := bel_keeps hb k0
  have qq1 := bel_keeps hb k1
  have qq2 := bel_keeps hb k2
  have qq3 := bel_keeps hb k3
  have qq4 := bel_keeps hb k4
  have qq5 := bel_keeps hb k5
  have qq6 := bel_keeps hb k6
  have qq7 := bel_keeps hb k7
  have qq8 := bel_keeps hb k8
  have qq9 := bel_keeps hb k9
  have g0 := bel_free hb (b := w.heap.size + 1 + 1) (o := 0) (by omega) f0
  have g1 := bel_free hb (b := w.heap.size + 1 + 1) (o := 1) (by omega) f1
  clear k0 k1 k2 k3 k4 k5 k6 k7 k8 k9 f0 f1 kR
  have r0 : ((w2.alloc (.cells #[.slice b1 PG.length d1, .slice b2 0 d2] 29)).alloc (.cells #[.int .i64 PT, .int .i64 zero, .int .i64 zero, .int .i64 zero] 3)).cell? ⟨w.heap.size + 1 + 1, 0, none⟩ = some (.slice none 0 0) := bel_keeps (((Below.refl _ _).alloc (Nat.le_refl _) _).alloc (by simp) _) qq8
  have s0 : ((w2.alloc (.cells #[.slice b1 PG.length d1, .slice b2 0 d2] 29)).alloc (.cells #[.int .i64 PT, .int .i64 zero, .int .i64 zero, .int .i64 zero] 3)).frozen? ⟨w.heap.size + 1 + 1, 0, none⟩ = false := bel_free (((Below.refl _ _).alloc (Nat.le_refl _) _).alloc (by simp) _) (by omega) g0
  have r1 : ((w2.alloc (.cells #[.slice b1 PG.length d1, .slice b2 0 d2] 29)).alloc (.cells #[.int .i64 PT, .int .i64 zero, .int .i64 zero, .int .i64 zero] 3)).cell? ⟨w.heap.size + 1 + 1, 1, none⟩ = some (.slice none 0 0) := bel_keeps (((Below.refl _ _).alloc (Nat.le_refl _) _).alloc (by simp) _) qq9
  have s1 : ((w2.alloc (.cells #[.slice b1 PG.length d1, .slice b2 0 d2] 29)).alloc (.cells #[.int .i64 PT, .int .i64 zero, .int .i64 zero, .int .i64 zero] 3)).frozen? ⟨w.heap.size + 1 + 1, 1, none⟩ = false := bel_free (((Below.refl _ _).alloc (Nat.le_refl _) _).alloc (by simp) _) (by omega) g1
  go_wp2_with fail
  refine bodyPost_ret (v := .tuple #[.agg #[.slice b1 PG.length d1, .slice b2 0 d2], .slice (some ⟨w2.heap.size + 1, 0, none⟩) 4 4]) (by simp [results, Try.results78, go_sem, *]) rfl ?_
  have e1 : stG (regsOf rs) zero ⟨9, dst, na, nb, nc, sn⟩ gs = ((equalP xs ys gs).1, [(equalP xs ys gs).2, zero, zero, zero]) := by simp only [stG, HXX.out, HYY.out, HZZ.out]; rfl
  rw [e1, ← HPG.out, ← HPT.out]
  have hbw := HBW.out
  have hq1 := fun x (hx : b1 = some x) => h1.blk x hx
  have hq2 := fun x (hx : b2 = some x) => h2.blk x hx
  refine ⟨b1, d1, b2, d2, some ⟨w2.heap.size + 1, 0, none⟩, 4, rfl, ((h1.lo (by first | omega | (simp; omega))).keep fun x hx => by have hq := h1.blk x hx; (try simp at hq); exact (by (repeat (first | with_reducible exact Kp.refl _ _ | (with_reducible refine Kp.rng ?_ (by assumption) ?_) | (with_reducible refine Kp.below ?_ (by assumption)) | (with_reducible refine Kp.grown ?_ (by assumption) ?_) | (with_reducible refine Kp.alloc ?_ _) | (with_reducible refine Kp.drew ?_) | (with_reducible refine Kp.drewN ?_ _) | (with_reducible refine Kp.setCell ?_ _ ?_))) <;> (first | omega | (simp; done) | (simp; omega)))), ((h2.lo (by first | omega | (simp; omega))).keep fun x hx => by have hq := h2.blk x hx; (try simp at hq); exact (by (repeat (first | with_reducible exact Kp.refl _ _ | (with_reducible refine Kp.rng ?_ (by assumption) ?_) | (with_reducible refine Kp.below ?_ (by assumption)) | (with_reducible refine Kp.grown ?_ (by assumption) ?_) | (with_reducible refine Kp.alloc ?_ _) | (with_reducible refine Kp.drew ?_) | (with_reducible refine Kp.drewN ?_ _) | (with_reducible refine Kp.setCell ?_ _ ?_))) <;> (first | omega | (simp; done) | (simp; omega)))), hn1, ?_, ?_, ?_, (by (repeat (first | with_reducible exact Below.refl _ _ | (with_reducible refine bel_next ?_ ?_ (by assumption)) | (with_reducible refine Below.alloc ?_ ?_ _) | (with_reducible refine Below.drew ?_) | (with_reducible refine below_drewN ?_ _) | (with_reducible refine Below.setCell ?_ ?_ _))) <;> (first | omega | (simp; done) | (simp; omega)))⟩
  · have ho4 := own_four (w2.alloc (.cells #[.slice b1 PG.length d1, .slice b2 0 d2] 29)) PT zero zero zero
    simp only [World.size_alloc] at ho4
    refine (ho4.lo (lo' := w.heap.size) (by omega)).keep fun x hx => ?_
    obtain rfl := Option.some.inj hx
    exact (by (repeat (first | with_reducible exact Kp.refl _ _ | (with_reducible refine Kp.rng ?_ (by assumption) ?_) | (with_reducible refine Kp.below ?_ (by assumption)) | (with_reducible refine Kp.grown ?_ (by assumption) ?_) | (with_reducible refine Kp.alloc ?_ _) | (with_reducible refine Kp.drew ?_) | (with_reducible refine Kp.drewN ?_ _) | (with_reducible refine Kp.setCell ?_ _ ?_))) <;> (first | omega | (simp; done) | (simp; omega)))
  · intro x y hx hy e
    obtain rfl := Option.some.inj hy
    have := hq1 x hx
    simp at e; omega
  · intro x y hx hy e
    obtain rfl := Option.some.inj hy
    have := hq2 x hx
    simp at e; omega


set_option maxRecDepth 20000 in
set_option maxHeartbeats 4000000 in
theorem compiled10 (dst sa sb sc sn : Int) (hs : StC ⟨10, dst, sa, sb, sc, sn⟩) (gs : List Gt) (hgt : gtsOk 0 gs = true) (h59 : gs.length ≤ 5900) (a1 a2 : Option Addr) (c1 c2 : Nat) (w : World) (hr : RdC w a1 (gtCells gs)) (rs : List RV) (hl : rs.length = 8) (ra : Option Addr) (rc : Nat) (hra : RdC w ra (rvCells rs)) (hok : ∀ r ∈ rs, RvOk w (fun _ => True) r) (hwr : ∀ i : Nat, i < 8 → Wrs gs 4 (rgA (regsOf rs) i)) (zero : Int) :
    Calls Try.prog 78 #[.agg #[.slice a1 gs.length c1, .slice a2 0 c2], .agg #[.int .i64 10, .int .i64 dst, .int .i64 sa, .int .i64 sb, .int .i64 sc, .int .i64 sn], .slice ra 8 rc, .int .i64 zero] w fun e w' => PostW w w' e (stG (regsOf rs) zero ⟨10, dst, sa, sb, sc, sn⟩ gs).1 [] (stG (regsOf rs) zero ⟨10, dst, sa, sb, sc, sn⟩ gs).2 := by
  have ha := hs.a
  have hb := hs.b
  have hc := hs.c
  have hk := hs.k
  have hi := hs.i
  clear hs
  simp only at ha hb hc hk hi
  obtain ⟨na, rfl⟩ := Int.eq_ofNat_of_zero_le ha.1
  obtain ⟨nb, rfl⟩ := Int.eq_ofNat_of_zero_le hb.1
  obtain ⟨nc, rfl⟩ := Int.eq_ofNat_of_zero_le hc.1
  obtain ⟨bl, off, ax, cx, xs, rfl, hbl, ka, HX, HLx, hcx, hrx, _⟩ := hra.rv hok na (by omega)
  obtain ⟨bl2, off2, ay, cy, ys, e2, _, kb, HY, HLy, hcy, hry, _⟩ := hra.rv hok nb (by omega)
  cases e2
  obtain ⟨bl3, off3, az, cz, zs, e3, _, kc, HZ, HLz, hcz, hrz, _⟩ := hra.rv hok nc (by omega)
  cases e3
  have hwx := hwr na (by omega)
  have hwy := hwr nb (by omega)
  have hwz := hwr nc (by omega)
  rw [HX] at hwx
  rw [HY] at hwy
  rw [HZ] at hwz
  have hna : (na : Int) < 8 := by omega
  have hnb : (nb : Int) < 8 := by omega
  have hnc : (nc : Int) < 8 := by omega
  have h8a : (na : Int).tmod 8 = na := Int.tmod_eq_of_lt (by omega) (by omega)
  have h8b : (nb : Int).tmod 8 = nb := Int.tmod_eq_of_lt (by omega) (by omega)
  have nw0 : bl ≠ w.heap.size := by omega
  have nw1 : bl ≠ w.heap.size + 1 := by omega
  have nw2 : bl ≠ w.heap.size + 1 + 1 := by omega
  have nw3 : bl ≠ w.heap.size + 1 + 1 := by omega
  have HR := Lib.hid hr
  have HRX := Lib.hid hrx
  have HRY := Lib.hid hry
  have HRZ := Lib.hid hrz
  have HLX := Lib.hid HLx
  have HLY := Lib.hid HLy
  have HLZ := Lib.hid HLz
  have HWX := Lib.hid hwx
  have HWY := Lib.hid hwy
  have HWZ := Lib.hid hwz
  have HGT := Lib.hid hgt
  have HXX := Lib.hid HX
  have HYY := Lib.hid HY
  have HZZ := Lib.hid HZ
  clear hra hr hrx hry hrz HLx HLy HLz HX HY HZ hok hwr hwx hwy hwz hgt
  have HASK : Hid ((askB gs [] ys zs && inB (at0 xs ((0 : Nat) : Int)) 0 ((gs.length : Int) - 1)) = true) := by show _ = _; rw [ask_of HGT.out h59 HWY.out HWZ.out, inB_iff.2 (by have := HWX.out.2 0 (by omega); omega)]; rfl
  have HN2 : Hid (RdC w a2 (I64 [])) := .inl rfl
  have hgl : gs.length ≤ 1048576 := by omega
  have ka1 : (((w.alloc (.cells #[.slice a1 gs.length c1, .slice a2 0 c2] 29)).alloc (.cells #[.int .i64 10, .int .i64 dst, .int .i64 na, .int .i64 nb, .int .i64 nc, .int .i64 sn] 90)).alloc (.cells #[.slice none 0 0, .slice none 0 0] 29)).cell? ⟨bl, off + na, none⟩ = some (.slice ax 4 cx) := bel_keeps ((((Below.refl _ _).alloc (Nat.le_refl _) _).alloc (by simp) _).alloc (by simp; omega) _) ka
  have kb1 : (((w.alloc (.cells #[.slice a1 gs.length c1, .slice a2 0 c2] 29)).alloc (.cells #[.int .i64 10, .int .i64 dst, .int .i64 na, .int .i64 nb, .int .i64 nc, .int .i64 sn] 90)).alloc (.cells #[.slice none 0 0, .slice none 0 0] 29)).cell? ⟨bl, off + nb, none⟩ = some (.slice ay 4 cy) := bel_keeps ((((Below.refl _ _).alloc (Nat.le_refl _) _).alloc (by simp) _).alloc (by simp; omega) _) kb
  go_enter Try.func78, Try.ntmps78
  go_wp2_with fail
  obtain ⟨W, hW⟩ : ∃ X, X = ((w.alloc (.cells #[.slice a1 gs.length c1, .slice a2 0 c2] 29)).alloc (.cells #[.int .i64 10, .int .i64 dst, .int .i64 na, .int .i64 nb, .int .i64 nc, .int .i64 sn] 90)).alloc (.cells #[.slice none 0 0, .slice none 0 0] 29) := ⟨_, rfl⟩
  have hbW : Below w.heap.size w W := by rw [hW]; exact (((Below.refl _ _).alloc (Nat.le_refl _) _).alloc (by simp) _).alloc (by simp; omega) _
  have zW : w.heap.size + 3 ≤ W.heap.size := by rw [hW]; simp
  have k0 : W.cell? ⟨w.heap.size, 0, none⟩ = some (.slice a1 gs.length c1) := by rw [hW]; go_simp
  have k1 : W.cell? ⟨w.heap.size, 1, none⟩ = some (.slice a2 0 c2) := by rw [hW]; go_simp
  have k2 : W.cell? ⟨w.heap.size + 1, 0, none⟩ = some (.int .i64 10) := by rw [hW]; go_simp
  have k3 : W.cell? ⟨w.heap.size + 1, 1, none⟩ = some (.int .i64 dst) := by rw [hW]; go_simp
  have k4 : W.cell? ⟨w.heap.size + 1, 2, none⟩ = some (.int .i64 na) := by rw [hW]; go_simp
  have k5 : W.cell? ⟨w.heap.size + 1, 3, none⟩ = some (.int .i64 nb) := by rw [hW]; go_simp
  have k6 : W.cell? ⟨w.heap.size + 1, 4, none⟩ = some (.int .i64 nc) := by rw [hW]; go_simp
  have k7 : W.cell? ⟨w.heap.size + 1, 5, none⟩ = some (.int .i64 sn) := by rw [hW]; go_simp
  have k8 : W.cell? ⟨w.heap.size + 1 + 1, 0, none⟩ = some (.slice none 0 0) := by rw [hW]; go_simp
  have k9 : W.cell? ⟨w.heap.size + 1 + 1, 1, none⟩ = some (.slice none 0 0) := by rw [hW]; go_simp
  have f0 : W.frozen? ⟨w.heap.size + 1 + 1, 0, none⟩ = false := by rw [hW]; go_simp
  have f1 : W.frozen? ⟨w.heap.size + 1 + 1, 1, none⟩ = false := by rw [hW]; go_simp
  have kR : W.cell? ⟨bl, off + nc, none⟩ = some (.slice az 4 cz) := bel_keeps hbW kc
  rw [← hW]
  have HBW := Lib.hid hbW
  clear hW kc hbW ka kb ka1 kb1
  obtain ⟨blx, offx, rfl, hbx0, c0⟩ := HRX.out.elem 0 (by rw [HLX.out]; omega)
  obtain ⟨q0, hq0⟩ : ∃ z, z = at0 xs ((0 : Nat) : Int) := ⟨_, rfl⟩
  rw [← hq0, Nat.add_zero] at c0
  have HQ0 := Lib.hid hq0
  have kX := bel_keeps HBW.out c0
  have HBD := Lib.hid HBW.out.drew
  have nx0 : blx ≠ w.heap.size := by omega
  have nx1 : blx ≠ w.heap.size + 1 := by omega
  have nx2 : blx ≠ w.heap.size + 1 + 1 := by omega
  have nx3 : w.heap.size ≠ w.heap.size + 1 + 1 := by omega
  have nx4 : w.heap.size + 1 ≠ w.heap.size + 1 + 1 := by omega
  rw [← hq0] at HASK
  clear hq0 c0
  obtain ⟨PG, hPG⟩ : ∃ x, x = (muxP q0 ys zs gs).1 := ⟨_, rfl⟩
  obtain ⟨PT, hPT⟩ : ∃ x, x = (muxP q0 ys zs gs).2 := ⟨_, rfl⟩
  have HPG := Lib.hid hPG
  have HPT := Lib.hid hPT
  clear hPG hPT
  have hcc := iWordMux_any gs [] a1 a2 c1 c2 W.drew hgl (by simp) (HR.out.below HBD.out) (HN2.out.below HBD.out) q0 ys 4 ay cy HLY.out (by omega) (HRY.out.below HBD.out) zs 4 az cz HLZ.out (by omega) (HRZ.out.below HBD.out)
  rw [HASK.out, wP_true, ← HPG.out, ← HPT.out] at hcc
  have HCC := Lib.hid hcc
  clear hcc
  go_region_held3 (fun w' => w'.cell? ⟨w.heap.size, 0, none⟩ = some (.slice a1 gs.length c1) ∧ w'.cell? ⟨w.heap.size, 1, none⟩ = some (.slice a2 0 c2) ∧ w'.cell? ⟨w.heap.size + 1, 4, none⟩ = some (.int .i64 nc) ∧ w'.cell? ⟨bl, off + nc, none⟩ = some (.slice az 4 cz) ∧ w'.cell? ⟨blx, offx, none⟩ = some (.int .i64 q0)) (first | (go_keep; done) | (refine ⟨?_, ?_, ?_, ?_, ?_⟩ <;> refine cell_stc (cell_stc (by assumption) ?_) ?_ <;> first | omega | (simp only; omega) | (simp; omega)))
    ((go_at_call 24; refine HCC.out.mono ?_; rintro e w2 ⟨b1, d1, b2, d2, g, c', rfl, h1, h2, hn1, h3, hn2, hn3, hb⟩; have z2 := hb.size; (try simp at z2); have qq0 := bel_keeps hb k0; have qq1 := bel_keeps hb k1; have qq2 := bel_keeps hb k2; have qq3 := bel_keeps hb k3; have qq4 := bel_keeps hb k4; have qq5 := bel_keeps hb k5; have qq6 := bel_keeps hb k6; have qq7 := bel_keeps hb k7; have qq8 := bel_keeps hb k8; have qq9 := bel_keeps hb k9; have qR := bel_keeps hb kR; have qX := bel_keeps hb kX; have g0 := bel_free hb (b := w.heap.size + 1 + 1) (o := 0) (by simp; omega) f0; have g1 := bel_free hb (b := w.heap.size + 1 + 1) (o := 1) (by simp; omega) f1))
  go_wp2_with fail
  refine bodyPost_ret (v := .tuple #[.agg #[.slice b1 PG.length d1, .slice b2 0 d2], .slice g PT.length c']) (by simp [results, Try.results78, go_sem, *]) rfl ?_
  have e1 : stG (regsOf rs) zero ⟨10, dst, na, nb, nc, sn⟩ gs = muxP q0 ys zs gs := by simp only [stG, HXX.out, HYY.out, HZZ.out, ← HQ0.out]; rfl
  rw [e1, ← HPG.out, ← HPT.out]
  have hbw := HBW.out
  exact ⟨b1, d1, b2, d2, g, c', rfl, ((h1.lo (by first | omega | (simp; omega))).keep fun x hx => by have hq := h1.blk x hx; (try simp at hq); exact (by (repeat (first | with_reducible exact Kp.refl _ _ | (with_reducible refine Kp.rng ?_ (by assumption) ?_) | (with_reducible refine Kp.below ?_ (by assumption)) | (with_reducible refine Kp.grown ?_ (by assumption) ?_) | (with_reducible refine Kp.alloc ?_ _) | (with_reducible refine Kp.drew ?_) | (with_reducible refine Kp.drewN ?_ _) | (with_reducible refine Kp.setCell ?_ _ ?_))) <;> (first | omega | (simp; done) | (simp; omega)))), ((h2.lo (by first | omega | (simp; omega))).keep fun x hx => by have hq := h2.blk x hx; (try simp at hq); exact (by (repeat (first | with_reducible exact Kp.refl _ _ | (with_reducible refine Kp.rng ?_ (by assumption) ?_) | (with_reducible refine Kp.below ?_ (by assumption)) | (with_reducible refine Kp.grown ?_ (by assumption) ?_) | (with_reducible refine Kp.alloc ?_ _) | (with_reducible refine Kp.drew ?_) | (with_reducible refine Kp.drewN ?_ _) | (with_reducible refine Kp.setCell ?_ _ ?_))) <;> (first | omega | (simp; done) | (simp; omega)))), hn1, ((h3.lo (by first | omega | (simp; omega))).keep fun x hx => by have hq := h3.blk x hx; (try simp at hq); exact (by (repeat (first | with_reducible exact Kp.refl _ _ | (with_reducible refine Kp.rng ?_ (by assumption) ?_) | (with_reducible refine Kp.below ?_ (by assumption)) | (with_reducible refine Kp.grown ?_ (by assumption) ?_) | (with_reducible refine Kp.alloc ?_ _) | (with_reducible refine Kp.drew ?_) | (with_reducible refine Kp.drewN ?_ _) | (with_reducible refine Kp.setCell ?_ _ ?_))) <;> (first | omega | (simp; done) | (simp; omega)))), hn2, hn3, (by (repeat (first | with_reducible exact Below.refl _ _ | (with_reducible refine bel_next ?_ ?_ (by assumption)) | (with_reducible refine Below.alloc ?_ ?_ _) | (with_reducible refine Below.drew ?_) | (with_reducible refine below_drewN ?_ _) | (with_reducible refine Below.setCell ?_ ?_ _))) <;> (first | omega | (simp; done) | (simp; omega)))⟩

end Go.Proofs.Ytfcijloiebnloaa

/- CmpX -/
namespace Go.Proofs.Ytfcijloiebnloaa
open Go.RowKit
set_option linter.unusedVariables false
set_option linter.unusedSimpArgs false

/-- A word apart from the circuit's box, the registers' list and the outputs' list. -/
def Aq (bc gr go : Nat) (ad : Option Addr) : Prop := ∀ b off, ad = some ⟨b, off, none⟩ → b ≠ bc ∧ b ≠ gr ∧ b ≠ go
structure CI (w0 w : World) (lo bc gr cr go co : Nat) (G : List Gt) (a1 : Option Addr) (d1 : Nat) (a2 : Option Addr) (d2 : Nat) (O : List Int) (rs : List RV) (rw : RV) : Prop where
  c0 : w.cell? ⟨bc, 0, none⟩ = some (.slice a1 G.length d1)
  c1 : w.cell? ⟨bc, 1, none⟩ = some (.slice a2 0 d2)
  f0 : w.frozen? ⟨bc, 0, none⟩ = false
  f1 : w.frozen? ⟨bc, 1, none⟩ = false
  g : Own w lo 109 3 a1 G.length d1 (gtCells G)
  gn : ∀ a, a1 = some a → a.block ≠ bc ∧ a.block ≠ gr ∧ a.block ≠ go
  r : Own w lo 23 1 (some ⟨gr, 0, none⟩) 8 cr (rvCells rs)
  rl : rs.length = 8
  o : Own w lo 3 1 (some ⟨go, 0, none⟩) O.length co (I64 O)
  ne : gr ≠ bc ∧ go ≠ bc ∧ gr ≠ go
  bl : lo ≤ bc ∧ bc < w.heap.size
  ok : ∀ r ∈ rs, RvOk w (Aq bc gr go) r
  wd : RvOk w (Aq bc gr go) rw
  l : Below lo w0 w
  lw : lo ≤ w.heap.size
theorem RvOk.keepB {w w2 : World} {F : Option Addr → Prop} {r : RV} (h : RvOk w F r) (k : ∀ b off, r.ad = some ⟨b, off, none⟩ → Kp b w w2) : RvOk w2 F r :=
  ⟨h.len, h.cap, h.rd.keep k, h.fr⟩
theorem CI.below {w0 w w2 : World} {lo bc gr cr go co d1 d2 : Nat} {G : List Gt} {a1 a2 : Option Addr} {O : List Int} {rs : List RV} {rw : RV} (h : CI w0 w lo bc gr cr go co G a1 d1 a2 d2 O rs rw) (k : Below w.heap.size w w2) : CI w0 w2 lo bc gr cr go co G a1 d1 a2 d2 O rs rw :=
  have kp : ∀ b, Kp b w w2 := fun b hb => ⟨k.block b hb, Nat.lt_of_lt_of_le hb k.size⟩
  ⟨bel_keeps k h.c0, bel_keeps k h.c1, bel_free k h.bl.2 h.f0, bel_free k h.bl.2 h.f1, h.g.keep fun a _ => kp _, h.gn, h.r.later (kp _), h.rl, h.o.later (kp _), h.ne, ⟨h.bl.1, Nat.lt_of_lt_of_le h.bl.2 k.size⟩,
    fun r hr => (h.ok r hr).keepB fun b off e => kp b, h.wd.keepB fun b off e => kp b, h.l.trans (k.mono h.lw), Nat.le_trans h.lw k.size⟩
/-- An output's word is appended. -/
theorem CI.outp {w0 w w2 : World} {lo bc gr cr go co d1 d2 g' c' : Nat} {G : List Gt} {a1 a2 : Option Addr} {O X : List Int} {rs : List RV} {rw : RV} (h : CI w0 w lo bc gr cr go co G a1 d1 a2 d2 O rs rw)
    (ho : Own w2 lo 3 1 (some ⟨g', 0, none⟩) (O ++ X).length c' (I64 (O ++ X))) (hg : w.grownBy w2 (some go)) (hat : g' = go ∨ g' = w.heap.size) : CI w0 w2 lo bc gr cr g' c' G a1 d1 a2 d2 (O ++ X) rs rw := by
  have hz := hg.size
  have kp : ∀ b, b ≠ go → Kp b w w2 := fun b hb hlt => ⟨hg.block b hlt (fun e => hb (Option.some.inj e)), by omega⟩
  have hbl := h.bl
  have hgr := h.r.ge
  have hgo := h.o.ge
  have hne := h.ne
  have hn : ∀ b, b < w.heap.size → b ≠ go → b ≠ g' := fun b hb hb2 => by
    rcases hat with e | e
    · rw [e]; exact hb2
    · rw [e]; exact Nat.ne_of_lt hb
  have rvf : ∀ r, RvOk w (Aq bc gr go) r → RvOk w2 (Aq bc gr g') r := fun r hr => ⟨hr.len, hr.cap, hr.rd.keep fun b off e => kp b (hr.fr b off e).2.2, fun b off e => ⟨(hr.fr b off e).1, (hr.fr b off e).2.1, by
    have hlt : b < w.heap.size := by
      rcases hr.rd with h0 | ⟨b', o', e', hc⟩
      · have q := congrArg List.length h0; rw [I64_length, hr.len] at q; simp at q
      · rw [e'] at e; cases e; exact lt_of_cell (hc 0 (by rw [I64_length, hr.len]; omega))
    exact hn b hlt (hr.fr b off e).2.2⟩⟩
  refine ⟨(cell_blk (kp bc (fun e => hne.2.1 e.symm) hbl.2).1 0).trans h.c0, (cell_blk (kp bc (fun e => hne.2.1 e.symm) hbl.2).1 1).trans h.c1, (free_blk (kp bc (fun e => hne.2.1 e.symm) hbl.2).1 0).trans h.f0, (free_blk (kp bc (fun e => hne.2.1 e.symm) hbl.2).1 1).trans h.f1,
    h.g.keep fun a ha => kp _ (h.gn a ha).2.2, fun a ha => ⟨(h.gn a ha).1, (h.gn a ha).2.1, hn _ (h.g.blk a ha).2.2.2 (h.gn a ha).2.2⟩, h.r.later (kp gr hne.2.2), h.rl, ho, ⟨hne.1, fun e => hn bc hbl.2 (fun e => hne.2.1 e.symm) e.symm, hn gr hgr.2 hne.2.2⟩, ⟨hbl.1, by omega⟩, fun r hr => rvf r (h.ok r hr), rvf rw h.wd, h.l.trans ((Below.refl _ _).grown hg h.lw (fun q e => by cases e; exact hgo.1)), by have := h.lw; omega⟩
/-- The circuit is replaced. -/
theorem CI.cset {w0 w : World} {lo bc gr cr go co d1 d2 e1 e2 : Nat} {G G' : List Gt} {a1 a2 b1 b2 : Option Addr} {O : List Int} {rs : List RV} {rw : RV} (h : CI w0 w lo bc gr cr go co G a1 d1 a2 d2 O rs rw)
    (hg : Own w lo 109 3 b1 G'.length e1 (gtCells G')) (hn : ∀ a, b1 = some a → a.block ≠ bc ∧ a.block ≠ gr ∧ a.block ≠ go) :
    CI w0 ((w.setCell ⟨bc, 0, none⟩ (.slice b1 G'.length e1)).setCell ⟨bc, 1, none⟩ (.slice b2 0 e2)) lo bc gr cr go co G' b1 e1 b2 e2 O rs rw := by
  have c0 := h.c0
  have c1 := h.c1
  have f0 := h.f0
  have f1 := h.f1
  have hs : ((w.setCell ⟨bc, 0, none⟩ (.slice b1 G'.length e1)).setCell ⟨bc, 1, none⟩ (.slice b2 0 e2)).heap.size = w.heap.size := by simp [World.setCell]
  have kp : ∀ b, b ≠ bc → Kp b w ((w.setCell ⟨bc, 0, none⟩ (.slice b1 G'.length e1)).setCell ⟨bc, 1, none⟩ (.slice b2 0 e2)) := fun b hb hlt => ⟨(Below.heap_setCell _ _ _ _ hb).trans (Below.heap_setCell _ _ _ _ hb), by rw [hs]; exact hlt⟩
  exact ⟨by go_simp, by go_simp, by go_simp, by go_simp, hg.keep fun a ha => kp _ (hn a ha).1, hn, h.r.later (kp _ h.ne.1), h.rl, h.o.later (kp _ h.ne.2.1), h.ne, by rw [hs]; exact h.bl, fun r hr => (h.ok r hr).keepB fun b off e => kp b ((h.ok r hr).fr b off e).1, h.wd.keepB fun b off e => kp b (h.wd.fr b off e).1,
    h.l.trans (((Below.refl _ _).setCell h.bl.1 _).setCell h.bl.1 _), by rw [hs]; exact h.lw⟩
/-- A register is replaced. -/
theorem CI.rset {w0 w : World} {lo bc gr cr go co d1 d2 j : Nat} {G : List Gt} {a1 a2 : Option Addr} {O : List Int} {rs : List RV} {rw r : RV} (h : CI w0 w lo bc gr cr go co G a1 d1 a2 d2 O rs rw)
    (hr : RvOk w (Aq bc gr go) r) : CI w0 (w.setCell ⟨gr, j, none⟩ r.v) lo bc gr cr go co G a1 d1 a2 d2 O (rs.set j r) rw := by
  have hs : (w.setCell ⟨gr, j, none⟩ r.v).heap.size = w.heap.size := by simp [World.setCell]
  have kp : ∀ b, b ≠ gr → Kp b w (w.setCell ⟨gr, j, none⟩ r.v) := fun b hb hlt => ⟨Below.heap_setCell _ _ _ _ hb, by rw [hs]; exact hlt⟩
  have hbc : bc ≠ gr := fun e => h.ne.1 e.symm
  have r2 := h.r.put j r.v
  rw [rvCells_set] at r2
  refine ⟨(cell_blk (kp bc hbc h.bl.2).1 0).trans h.c0, (cell_blk (kp bc hbc h.bl.2).1 1).trans h.c1, (free_blk (kp bc hbc h.bl.2).1 0).trans h.f0, (free_blk (kp bc hbc h.bl.2).1 1).trans h.f1, h.g.keep fun a ha => kp _ (h.gn a ha).2.1, h.gn, r2, by simp [h.rl], h.o.later (kp _ (fun e => h.ne.2.2 e.symm)), h.ne, by rw [hs]; exact h.bl, fun q hq => ?_, h.wd.keepB fun b off e => kp b (h.wd.fr b off e).2.1, h.l.trans ((Below.refl _ _).setCell h.r.ge.1 _), by rw [hs]; exact h.lw⟩
  rcases List.mem_or_eq_of_mem_set hq with h1 | rfl
  · exact (h.ok q h1).keepB fun b off e => kp b ((h.ok q h1).fr b off e).2.1
  · exact hr.keepB fun b off e => kp b (hr.fr b off e).2.1

end Go.Proofs.Ytfcijloiebnloaa

/- CmpJ -/
namespace Go.Proofs.Ytfcijloiebnloaa
open Go.RowKit
set_option linter.unusedVariables false
set_option linter.unusedSimpArgs false

/-- compiled at whatever operation. -/
theorem compiled_any (s : St) (hs : StC s) (gs : List Gt) (hgt : gtsOk 0 gs = true) (h59 : gs.length ≤ 5900) (a1 a2 : Option Addr) (c1 c2 : Nat) (w : World) (hr : RdC w a1 (gtCells gs)) (rs : List RV) (hl : rs.length = 8) (ra : Option Addr) (rc : Nat) (hra : RdC w ra (rvCells rs)) (hok : ∀ r ∈ rs, RvOk w (fun _ => True) r) (hwr : ∀ i : Nat, i < 8 → Wrs gs 4 (rgA (regsOf rs) i)) (zero : Int) :
    Calls Try.prog 78 #[.agg #[.slice a1 gs.length c1, .slice a2 0 c2], stV s, .slice ra 8 rc, .int .i64 zero] w fun e w' => PostW w w' e (stG (regsOf rs) zero s gs).1 [] (stG (regsOf rs) zero s gs).2 := by
  obtain ⟨op, dst, sa, sb, sc, sn⟩ := s
  have h1 := hs.o1
  have h2 := hs.o2
  simp only at h1 h2
  have hop : op = 1 ∨ op = 2 ∨ op = 3 ∨ op = 4 ∨ op = 5 ∨ op = 6 ∨ op = 7 ∨ op = 8 ∨ op = 9 ∨ op = 10 := by omega
  rcases hop with rfl | rfl | rfl | rfl | rfl | rfl | rfl | rfl | rfl | rfl
  · exact compiled1 dst sa sb sc sn hs gs hgt h59 a1 a2 c1 c2 w hr rs hl ra rc hra hok hwr zero
  · exact compiled2 dst sa sb sc sn hs gs hgt h59 a1 a2 c1 c2 w hr rs hl ra rc hra hok hwr zero
  · exact compiled3 dst sa sb sc sn hs gs hgt h59 a1 a2 c1 c2 w hr rs hl ra rc hra hok hwr zero
  · exact compiled4 dst sa sb sc sn hs gs hgt h59 a1 a2 c1 c2 w hr rs hl ra rc hra hok hwr zero
  · exact compiled5 dst sa sb sc sn hs gs hgt h59 a1 a2 c1 c2 w hr rs hl ra rc hra hok hwr zero
  · exact compiled6 dst sa sb sc sn hs gs hgt h59 a1 a2 c1 c2 w hr rs hl ra rc hra hok hwr zero
  · exact compiled7 dst sa sb sc sn hs gs hgt h59 a1 a2 c1 c2 w hr rs hl ra rc hra hok hwr zero
  · exact compiled8 dst sa sb sc sn hs gs hgt h59 a1 a2 c1 c2 w hr rs hl ra rc hra hok hwr zero
  · exact compiled9 dst sa sb sc sn hs gs hgt h59 a1 a2 c1 c2 w hr rs hl ra rc hra hok hwr zero
  · exact compiled10 dst sa sb sc sn hs gs hgt h59 a1 a2 c1 c2 w hr rs hl ra rc hra hok hwr zero


set_option maxRecDepth 20000 in
set_option maxHeartbeats 8000000 in
theorem iCompile_any (xs us : List St) (ok : Bool) (hv : IsUnr xs us ok) (hsu : ok = true → ∀ s ∈ us, StU s) (ad : Option Addr) (cp : Nat) (w : World) (hm : xs.length ≤ maxLen) (hcp : xs.length ≤ cp) (hcm : cp ≤ maxLen) (hr : RdC w ad (stCells xs)) :
    Calls Try.prog 38 #[.slice ad xs.length cp] w fun e w' => PostC w w' e (cmpG us ok) (cmpO us ok) ok := by
  have hul := unr_len hv
  have HV := Lib.hid hv
  have HSU := Lib.hid hsu
  have HR := Lib.hid hr
  clear hv hsu hr
  cases ok
  case false =>
    have hu0 : us = [] := by have := HV.out; rcases this with h | h | h; exact h.2.1; exact h.2.1; exact absurd h.1 (by simp)
    subst hu0
    go_enter Try.func38, Try.ntmps38
    go_wp2_with fail
    refine (iUnroll_any xs [] false HV.out ad cp _ hm hcp hcm (HR.out.below ((Below.refl _ _).alloc (Nat.le_refl _) _))).mono ?_
    rintro e w1 ⟨au, cu, rfl, hu, hb1⟩
    have z1 := hb1.size
    simp at z1
    have k0 := bel_keeps hb1 (b := w.heap.size) (o := 0) (v := .slice none 0 0) (by first | (go_simp; done) | assumption)
    have k1 := bel_keeps hb1 (b := w.heap.size) (o := 1) (v := .slice none 0 0) (by first | (go_simp; done) | assumption)
    have f0 := bel_free hb1 (b := w.heap.size) (o := 0) (by simp) (by first | (go_simp; done) | assumption)
    have f1 := bel_free hb1 (b := w.heap.size) (o := 1) (by simp) (by first | (go_simp; done) | assumption)
    go_wp2_with fail
    refine bodyPost_ret (v := .tuple #[.agg #[.slice none 0 0, .slice none 0 0], .bool false]) (by simp [results, Try.results38, go_sem, *]) rfl ?_
    exact ⟨none, 0, none, 0, rfl, own_none _ _ _ _, own_none _ _ _ _, (fun x y e => by cases e), (by (repeat (first | with_reducible exact Below.refl _ _ | (with_reducible refine bel_next ?_ ?_ (by assumption)) | (with_reducible refine Below.alloc ?_ ?_ _) | (with_reducible refine Below.drew ?_) | (with_reducible refine below_drewN ?_ _) | (with_reducible refine Below.setCell ?_ ?_ _))) <;> (first | omega | (simp; done) | (simp; omega)))⟩
  case true =>
    have hsu := HSU.out rfl
    clear HSU
    have HSU := Lib.hid hsu
    clear hsu
    go_enter Try.func38, Try.ntmps38
    go_wp2_with fail
    refine (iUnroll_any xs us true HV.out ad cp _ hm hcp hcm (HR.out.below ((Below.refl _ _).alloc (Nat.le_refl _) _))).mono ?_
    rintro e w1 ⟨au, cu, rfl, hu, hb1⟩
    have z1 := hb1.size
    simp at z1
    have k0 := bel_keeps hb1 (b := w.heap.size) (o := 0) (v := .slice none 0 0) (by first | (go_simp; done) | assumption)
    have k1 := bel_keeps hb1 (b := w.heap.size) (o := 1) (v := .slice none 0 0) (by first | (go_simp; done) | assumption)
    have f0 := bel_free hb1 (b := w.heap.size) (o := 0) (by simp) (by first | (go_simp; done) | assumption)
    have f1 := bel_free hb1 (b := w.heap.size) (o := 1) (by simp) (by first | (go_simp; done) | assumption)
    have HU := Lib.hid hu.rd
    have HB1 := Lib.hid hb1
    have HK0 := Lib.hid k0
    have HK1 := Lib.hid k1
    have HF0 := Lib.hid f0
    have HF1 := Lib.hid f1
    clear hu hb1 k0 k1 f0 f1
    obtain ⟨G0, hG0⟩ : ∃ x, x = (constP 0 []).1 := ⟨_, rfl⟩
    obtain ⟨W0, hW0⟩ : ∃ x, x = (constP 0 []).2 := ⟨_, rfl⟩
    have hW4 : W0.length = 4 := by rw [hW0]; exact rnds_len _ _ 4
    have HG0 := Lib.hid hG0
    have HW0 := Lib.hid hW0
    have HW4 := Lib.hid hW4
    clear hG0 hW0 hW4
    go_wp2_with fail
    have hcc := iWordConst_any [] [] none none 0 0 w1 (by simp) (by simp) (.inl rfl) (.inl rfl) 0
    rw [show (roomB [] [] && inB 0 0 15) = true from rfl, wP_true, ← HG0.out, ← HW0.out] at hcc
    refine hcc.mono ?_
    clear hcc
    rintro e w2 ⟨b1, d1, b2, d2, gw, cw, rfl, h1, h2, hn1, h3, hn2, hn3, hb2⟩
    rw [HW4.out] at h3 ⊢
    obtain ⟨bw, ow, rfl, _, cz⟩ := h3.rd.elem 0 (by rw [HW4.out]; omega)
    obtain rfl : ow = 0 := (h3.blk _ rfl).1
    have z2 := hb2.size
    have H1 := Lib.hid h1
    have H3 := Lib.hid h3
    have HN2 := Lib.hid hn2
    have HB2 := Lib.hid hb2
    have gw2 := (h3.blk _ rfl).2.2.2
    simp only at gw2
    clear h1 h2 hn1 h3 hn2 hn3 hb2 cz
    obtain ⟨W1, hW1⟩ : ∃ X, X = w2.alloc (.cells #[.slice b1 G0.length d1, .slice b2 0 d2] 29) := ⟨_, rfl⟩
    have HBW : Hid (Below w2.heap.size w2 W1) := by rw [hW1]; exact (Below.refl _ _).alloc (Nat.le_refl _) _
    have zW : w2.heap.size + 1 ≤ W1.heap.size := by rw [hW1]; simp
    have zW2 : W1.heap.size ≤ w2.heap.size + 1 := by rw [hW1]; simp
    have C0 : Hid (W1.cell? ⟨w2.heap.size, 0, none⟩ = some (.slice b1 G0.length d1)) := by show _ = _; rw [hW1]; go_simp
    have C1 : Hid (W1.cell? ⟨w2.heap.size, 1, none⟩ = some (.slice b2 0 d2)) := by show _ = _; rw [hW1]; go_simp
    have F0 : Hid (W1.frozen? ⟨w2.heap.size, 0, none⟩ = false) := by show _ = _; rw [hW1]; go_simp
    have F1 : Hid (W1.frozen? ⟨w2.heap.size, 1, none⟩ = false) := by show _ = _; rw [hW1]; go_simp
    have HZ1 : Hid (w2.heap.size + 1 = W1.heap.size) := Nat.le_antisymm zW zW2
    obtain ⟨rw0, hrw⟩ : ∃ r : RV, r = ⟨some ⟨bw, 0, none⟩, cw, W0⟩ := ⟨_, rfl⟩
    have HV0 : Hid (Value.slice (some ⟨bw, 0, none⟩) 4 cw = rw0.v) := by show _ = _; rw [hrw]; rfl
    have HRW := Lib.hid hrw
    clear hrw
    obtain ⟨W2, hW2⟩ : ∃ X, X = W1.alloc (.cells #[] 23) := ⟨_, rfl⟩
    have HO2 : Hid (Own W2 W1.heap.size 23 1 (some ⟨W1.heap.size, 0, none⟩) 0 0 []) := by rw [hW2]; exact own_new _ _ _
    have HBB : Hid (Below W1.heap.size W1 W2) := by rw [hW2]; exact (Below.refl _ _).alloc (Nat.le_refl _) _
    have HHW1 := Lib.hid hW1
    have HHW2 := Lib.hid hW2
    clear hW1 hW2
    go_wp2_with fail
    have hW1 := HHW1.out
    have hW2 := HHW2.out
    rw [← hW1, ← hW2, HZ1.out]
    clear HHW1 HHW2
    clear hW1 hW2 HZ1
    go_loopw [8, 9] (fun u i wr => ∃ (k c g : Nat), k ≤ 8 ∧ i = .int .i64 k ∧ u = .slice (some ⟨g, 0, none⟩) k c ∧ Own wr W1.heap.size 23 1 (some ⟨g, 0, none⟩) k c (rvCells (List.replicate k rw0)) ∧ Below W1.heap.size W1 wr) (fun _ i _ => 8 - (intOf i).toNat)
    case atStart => exact ⟨0, 0, _, Nat.zero_le _, rfl, rfl, HO2.out, HBB.out⟩
    case round =>
      obtain ⟨k, c, g, hk, rfl, rfl, hq, hqb⟩ := hrel
      have HQ := Lib.hid hq
      have HQB := Lib.hid hqb
      have zq := hqb.size
      have gq := hq.ge
      clear hq hqb
      by_cases hlt : k < 8
      · have hk' : (k : Int) < 8 := by omega
        go_wp2_with (refine wpList_pushV _ rfl (.tmp 33) (.tmp 35) rfl W1.heap.size g k c (rvCells (List.replicate k rw0)) rw0 wr.heap.size 1 (by rfl) (by rfl) (HQ.out.alloc _) (by rw [← HV0.out]; go_simp) (by omega) (by simp; omega) ?_; intro g5 c5 w5 ho5 hb5 hg5 hat5)
        rw [show rvCells (List.replicate k rw0) ++ [rw0.v] = rvCells (List.replicate (k + 1) rw0) by simp [rvCells, List.replicate_succ']] at ho5
        have HO5 := Lib.hid ho5
        have HB5 := Lib.hid ((HQB.out.alloc zq _).trans hb5)
        clear ho5 hb5 hg5 hat5
        go_wp2_with fail
        go_roundw
        case rel => exact ⟨k + 1, c5, g5, by omega, by go_num, rfl, HO5.out, HB5.out⟩
        case measure => first | (simp [intOf]; done) | (simp [intOf]; omega)
      · obtain rfl : k = 8 := by omega
        go_wp2_with fail
        obtain ⟨wq, hwq⟩ : ∃ X, X = wr := ⟨_, rfl⟩
        subst hwq
        have hB2x : Below w2.heap.size w2 (wq.alloc (.cells #[] 3)) := (HBW.out.trans (HQB.out.mono (by omega))).alloc (by omega) _
        have kp2 : ∀ b, Kp b w2 (wq.alloc (.cells #[] 3)) := fun b hb => ⟨hB2x.block b hb, Nat.lt_of_lt_of_le hb hB2x.size⟩
        have kx : Below wq.heap.size wq (wq.alloc (.cells #[] 3)) := (Below.refl _ _).alloc (Nat.le_refl _) _
        have hrv : RvOk (wq.alloc (.cells #[] 3)) (Aq w2.heap.size g wq.heap.size) rw0 := by
          rw [HRW.out]
          exact ⟨HW4.out, own_cap' H3.out, H3.out.rd.keep fun b off e => kp2 b, fun b off e => by cases e; exact ⟨by omega, by omega, by omega⟩⟩
        have hci0 : CI w1 (wq.alloc (.cells #[] 3)) w1.heap.size w2.heap.size g c wq.heap.size 0 G0 b1 d1 b2 d2 [] (List.replicate 8 rw0) rw0 := ⟨bel_keeps kx (bel_keeps HQB.out C0.out), bel_keeps kx (bel_keeps HQB.out C1.out), bel_free kx (by omega) (bel_free HQB.out (by omega) F0.out), bel_free kx (by omega) (bel_free HQB.out (by omega) F1.out), H1.out.keep fun a _ => kp2 _, (fun a ha => by have := (H1.out.blk a ha).2.2.2; exact ⟨by omega, by omega, by omega⟩), (HQ.out.lo (by omega)).alloc _, by simp, own_last wq 3 1 w1.heap.size wq.heap.size rfl (by omega), ⟨by omega, by omega, by omega⟩, ⟨by omega, by simp; omega⟩, (fun r hr => by obtain rfl := List.eq_of_mem_replicate hr; exact hrv), hrv, HB2.out.trans (hB2x.mono z2), by simp; omega⟩
        have hst0 : cmpL zero0 (us.take 0) cmp0 = (G0, [], regsOf (List.replicate 8 rw0)) := by
          show cmp0 = _
          rw [HRW.out, HG0.out, HW0.out]; rfl
        have HC0 := Lib.hid hci0
        have HS0 := Lib.hid hst0
        have hz0 : at0 W0 ((0 : Nat) : Int) = zero0 := by rw [HW0.out]; rfl
        have HZ0 := Lib.hid hz0
        clear hB2x kp2 kx hrv hci0 hst0 hz0 hlt hk zq gq HQ HQB C0 C1 F0 F1 H1 HBW HB2
        go_loopw [10, 40] (fun u i wr => ∃ (k go co d1 d2 : Nat) (a1 a2 : Option Addr) (G : List Gt) (O : List Int) (rs : List RV), k ≤ us.length ∧ u = .slice (some ⟨go, 0, none⟩) O.length co ∧ i = .int .i64 k ∧ cmpL zero0 (us.take k) cmp0 = (G, O, regsOf rs) ∧ CI w1 wr w1.heap.size w2.heap.size g c go co G a1 d1 a2 d2 O rs rw0) (fun _ i _ => us.length - (intOf i).toNat)
        case atStart => exact ⟨0, wq.heap.size, 0, d1, d2, b1, b2, G0, [], _, Nat.zero_le _, rfl, rfl, HS0.out, HC0.out⟩
        case round =>
          clear HC0 HS0
          obtain ⟨k, go, co, d1, d2, a1, a2, G, O, rs, hk, rfl, rfl, hst, hcs⟩ := hrel
          have hok := cmpL_ok HSU.out k hk
          rw [hst] at hok
          have HST := Lib.hid hst
          have HCS := Lib.hid hcs
          have HOK := Lib.hid hok
          have hgl := hok.len
          have hol := hok.ol
          simp only at hgl hol
          have BU := Lib.hid hcs.l
          have zr := BU.out.size
          have gg := hcs.r.ge
          have ggo := hcs.o.ge
          have hbc := hcs.bl
          have hne := hcs.ne
          have hlw := hcs.lw
          have kc0 := hcs.c0
          have kc1 := hcs.c1
          have kf0 := hcs.f0
          have kf1 := hcs.f1
          clear hst hcs hok
          by_cases hlt : k < us.length
          · have hlt' : (k : Int) < (us.length : Int) := by omega
            obtain ⟨b, off, op, dst, sa, sb, sc, sn, hau, hbl, hx, e0, e1, e2, e3, e4, e5⟩ := (HU.out.below BU.out).st k hlt
            subst hau
            have hsu := HSU.out _ (List.mem_of_getElem? hx)
            have HSN : Hid (cmpL zero0 (us.take (k + 1)) cmp0 = cmpStep zero0 (G, O, regsOf rs) ⟨op, dst, sa, sb, sc, sn⟩) := by show _ = _; rw [cmpL_snoc hx, HST.out]
            have HSS := Lib.hid hsu
            clear hx hsu
            by_cases ho : op = 11
            · subst ho
              have ha := HSS.out.out rfl
              simp only at ha
              obtain ⟨na, rfl⟩ := Int.eq_ofNat_of_zero_le ha.1
              have hna : (na : Int) < 8 := by omega
              obtain ⟨bl, off2, ax, cx, ws, q2, hbl2, kc, HX, HLx, hcx, hrx, hfx⟩ := HCS.out.r.rd.rv HCS.out.ok na (by have := HCS.out.rl; omega)
              cases q2
              rw [Nat.zero_add] at kc
              obtain ⟨bx1, ox1, rfl, hb9, _⟩ := hrx.elem 0 (by omega)
              have HXX := Lib.hid HX
              have HLX := Lib.hid HLx
              have hA : Below wr.heap.size wr (wr.alloc (.cells #[.int .i64 11, .int .i64 dst, .int .i64 na, .int .i64 sb, .int .i64 sc, .int .i64 sn] 90)) := (Below.refl _ _).alloc (Nat.le_refl _) _
              have HCA := Lib.hid (HCS.out.below hA)
              have HRX := Lib.hid (hrx.below hA)
              clear hrx hfx HX HLx hA
              have ngr : g ≠ wr.heap.size := by omega
              go_wp2_with (refine wpList_appm _ rfl el_int (.tmp 47) (.tmp 52) rfl w1.heap.size go O.length co (I64 O) (I64 ws) (some ⟨bx1, ox1, none⟩) 4 cx (by rfl) (by rfl) HCA.out.o (by simp [HLX.out]) HRX.out (I64_one ws) (by intro h; cases h) (by omega) (by omega) (by simp; omega) ?_; intro g5 c5 w5 ho5 hb5 hg5 hat5)
              have hN := HCA.out.outp (X := ws) (g' := g5) (c' := c5) (by rw [List.length_append, HLX.out, I64_append]; exact ho5) hg5 hat5
              have HN := Lib.hid hN
              clear hN ho5 hb5 hg5 hat5
              go_wp2_with fail
              go_roundw
              all_goals first
                | (show _ < _; first | (simp [intOf]; done) | (simp [intOf]; omega))
                | exact ⟨k + 1, g5, c5, d1, d2, a1, a2, G, O ++ ws, rs, by omega, by rw [List.length_append, HLX.out], by go_num, by rw [HSN.out]; unfold cmpStep; rw [if_pos rfl, HXX.out], HN.out⟩
                | ((repeat apply Exists.intro); exact ⟨⟨k + 1, g5, c5, d1, d2, a1, a2, G, O ++ ws, rs, by omega, by rw [List.length_append, HLX.out], by go_num, by rw [HSN.out]; unfold cmpStep; rw [if_pos rfl, HXX.out], HN.out⟩, rfl⟩)
            · have ho' : (op == 11) = false := by simp [ho]
              have hsc := HSS.out.st ho
              have hd := HSS.out.dst
              simp only at hd
              obtain ⟨nd, rfl⟩ := Int.eq_ofNat_of_zero_le hd.1
              have HSC := Lib.hid hsc
              clear hsc
              have hnd : (nd : Int) < 8 := by omega
              have hw0 := HCS.out.wd.rd.elem 0 (by rw [HCS.out.wd.len]; omega)
              rw [HRW.out] at hw0
              obtain ⟨bz, oz, ez, hbz, cz0⟩ := hw0
              cases ez
              rw [HZ0.out] at cz0
              have cz1 : wr.cell? ⟨bw, 0, none⟩ = some (.int .i64 zero0) := cz0
              clear cz0
              obtain ⟨PG, hPG⟩ : ∃ x, x = (stG (regsOf rs) zero0 ⟨op, nd, sa, sb, sc, sn⟩ G).1 := ⟨_, rfl⟩
              obtain ⟨PT, hPT⟩ : ∃ x, x = (stG (regsOf rs) zero0 ⟨op, nd, sa, sb, sc, sn⟩ G).2 := ⟨_, rfl⟩
              have hPL : PT.length = 4 := by rw [hPT]; exact (stG_inv HOK.out.ok HOK.out.rw HOK.out.z HSC.out).2.1
              have HPG := Lib.hid hPG
              have HPT := Lib.hid hPT
              have HPL := Lib.hid hPL
              clear hPG hPT hPL
              obtain ⟨Ws, hWs⟩ : ∃ X, X = wr.alloc (.cells #[.int .i64 op, .int .i64 nd, .int .i64 sa, .int .i64 sb, .int .i64 sc, .int .i64 sn] 90) := ⟨_, rfl⟩
              have hA : Below wr.heap.size wr Ws := by rw [hWs]; exact (Below.refl _ _).alloc (Nat.le_refl _) _
              have zWs : wr.heap.size < Ws.heap.size := by rw [hWs]; simp
              have HCA := Lib.hid (HCS.out.below hA)
              have l0 : Ws.cell? ⟨wr.heap.size, 0, none⟩ = some (.int .i64 op) := by rw [hWs]; go_simp
              have l1 : Ws.cell? ⟨wr.heap.size, 1, none⟩ = some (.int .i64 nd) := by rw [hWs]; go_simp
              have l2 : Ws.cell? ⟨wr.heap.size, 2, none⟩ = some (.int .i64 sa) := by rw [hWs]; go_simp
              have l3 : Ws.cell? ⟨wr.heap.size, 3, none⟩ = some (.int .i64 sb) := by rw [hWs]; go_simp
              have l4 : Ws.cell? ⟨wr.heap.size, 4, none⟩ = some (.int .i64 sc) := by rw [hWs]; go_simp
              have l5 : Ws.cell? ⟨wr.heap.size, 5, none⟩ = some (.int .i64 sn) := by rw [hWs]; go_simp
              have j0 := bel_keeps hA kc0
              have j1 := bel_keeps hA kc1
              have j2 := bel_keeps hA cz1
              have HWs := Lib.hid hWs
              have HHA := Lib.hid hA
              have HCALL : Hid (∀ W, Below Ws.heap.size Ws W → Calls Try.prog 78 #[.agg #[.slice a1 G.length d1, .slice a2 0 d2], .agg #[.int .i64 op, .int .i64 nd, .int .i64 sa, .int .i64 sb, .int .i64 sc, .int .i64 sn], .slice (some ⟨g, 0, none⟩) 8 c, .int .i64 zero0] W fun e w' => PostW W w' e PG [] PT) := fun W hW => by
                rw [HPG.out, HPT.out]
                exact compiled_any ⟨op, nd, sa, sb, sc, sn⟩ HSC.out G HOK.out.ok (by omega) a1 a2 d1 d2 W (HCA.out.g.rd.below hW) rs HCA.out.rl (some ⟨g, 0, none⟩) c (HCA.out.r.rd.below hW) (fun r hr => ⟨(HCA.out.ok r hr).len, (HCA.out.ok r hr).cap, (HCA.out.ok r hr).rd.below hW, trivial⟩) HOK.out.rw zero0
              clear hWs hA
              go_wp2_with fail
              rw [← HWs.out]
              clear e0 e1 e2 e3 e4 e5 kc0 kc1 kf0 kf1 cz1
              go_cut [13, 14, 40] from 41 to 70 (fun u v i wx => ∃ (bn e1 e2 c3 : Nat) (b1 b2 g3 : Option Addr), u = .pointer (some ⟨bn, 0, none⟩) ∧ v = .slice g3 4 c3 ∧ i = .int .i64 k ∧ wx.cell? ⟨bn, 0, none⟩ = some (.slice b1 PG.length e1) ∧ wx.cell? ⟨bn, 1, none⟩ = some (.slice b2 0 e2) ∧ Own wx w1.heap.size 109 3 b1 PG.length e1 (gtCells PG) ∧ (∀ a, b1 = some a → wr.heap.size ≤ a.block) ∧ Own wx w1.heap.size 3 1 g3 PT.length c3 (I64 PT) ∧ (∀ a, g3 = some a → wr.heap.size ≤ a.block) ∧ Below Ws.heap.size Ws wx)
              case first =>
                have nb0 : w2.heap.size ≠ Ws.heap.size := by omega
                have nb1 : wr.heap.size ≠ Ws.heap.size := by omega
                have nb2 : bw ≠ Ws.heap.size := by omega
                have nb3 : w2.heap.size < Ws.heap.size := by omega
                have nb4 : bw < Ws.heap.size := by omega
                go_region_held3 (fun w' => w'.cell? ⟨w2.heap.size, 0, none⟩ = some (.slice a1 G.length d1) ∧ w'.cell? ⟨w2.heap.size, 1, none⟩ = some (.slice a2 0 d2) ∧ w'.cell? ⟨wr.heap.size, 0, none⟩ = some (.int .i64 op) ∧ w'.cell? ⟨wr.heap.size, 1, none⟩ = some (.int .i64 nd) ∧ w'.cell? ⟨wr.heap.size, 2, none⟩ = some (.int .i64 sa) ∧ w'.cell? ⟨wr.heap.size, 3, none⟩ = some (.int .i64 sb) ∧ w'.cell? ⟨wr.heap.size, 4, none⟩ = some (.int .i64 sc) ∧ w'.cell? ⟨wr.heap.size, 5, none⟩ = some (.int .i64 sn) ∧ w'.cell? ⟨bw, 0, none⟩ = some (.int .i64 zero0)) (first | (go_keep; done) | (refine ⟨?_, ?_, ?_, ?_, ?_, ?_, ?_, ?_, ?_⟩ <;> (refine cell_std (cell_std (by assumption) ?_) ?_ <;> first | exact nb0 | exact nb1 | exact nb2)))
                  ((go_at_call 78; refine (HCALL.out _ (by (repeat (first | with_reducible exact Below.refl _ _ | (with_reducible refine bel_next ?_ ?_ (by assumption)) | (with_reducible refine Below.alloc ?_ ?_ _) | (with_reducible refine Below.drew ?_) | (with_reducible refine below_drewN ?_ _) | (with_reducible refine Below.setCell ?_ ?_ _))) <;> (first | omega | (simp; done) | (simp; omega)))).mono ?_; rintro e w9 ⟨x1, y1, x2, y2, g3, c3, rfl, h1, h2, hn1, h3, hn2, hn3, hb9⟩; have z9 := hb9.size; (try simp at z9); have m0 := bel_keeps hb9 (b := w2.heap.size) (o := 0) (v := .slice a1 G.length d1) (by first | (go_simp; done) | assumption); have m1 := bel_keeps hb9 (b := w2.heap.size) (o := 1) (v := .slice a2 0 d2) (by first | (go_simp; done) | assumption); have s0 := bel_keeps hb9 (b := wr.heap.size) (o := 0) (v := .int .i64 op) (by first | (go_simp; done) | assumption); have s1 := bel_keeps hb9 (b := wr.heap.size) (o := 1) (v := .int .i64 nd) (by first | (go_simp; done) | assumption); have s2 := bel_keeps hb9 (b := wr.heap.size) (o := 2) (v := .int .i64 sa) (by first | (go_simp; done) | assumption); have s3 := bel_keeps hb9 (b := wr.heap.size) (o := 3) (v := .int .i64 sb) (by first | (go_simp; done) | assumption); have s4 := bel_keeps hb9 (b := wr.heap.size) (o := 4) (v := .int .i64 sc) (by first | (go_simp; done) | assumption); have s5 := bel_keeps hb9 (b := wr.heap.size) (o := 5) (v := .int .i64 sn) (by first | (go_simp; done) | assumption); have m2 := bel_keeps hb9 (b := bw) (o := 0) (v := .int .i64 zero0) (by first | (go_simp; done) | assumption); (try have n0 := bel_keeps hb9 (b := Ws.heap.size) (o := 0) (v := .slice none 0 0) (by first | (go_simp; done) | assumption)); (try have n1 := bel_keeps hb9 (b := Ws.heap.size) (o := 1) (v := .slice none 0 0) (by first | (go_simp; done) | assumption)); (try have n2 := bel_free hb9 (b := Ws.heap.size) (o := 0) (by first | omega | (simp; done) | (simp; omega)) (by first | (go_simp; done) | assumption)); (try have n3 := bel_free hb9 (b := Ws.heap.size) (o := 1) (by first | omega | (simp; done) | (simp; omega)) (by first | (go_simp; done) | assumption)); (try have n4 : Ws.heap.size < w9.heap.size := (by omega)); have nc0 : w2.heap.size ≠ w9.heap.size := (by omega); have nc1 : wr.heap.size ≠ w9.heap.size := (by omega); have nc2 : bw ≠ w9.heap.size := (by omega); rw [HPL.out]))
                all_goals go_wp2_with fail
                all_goals go_meet
                all_goals first
                  | exact ⟨Ws.heap.size, y1, y2, c3, x1, x2, g3, rfl, rfl, rfl, (by first | (go_simp; done) | assumption), (by first | (go_simp; done) | assumption), ((h1.lo (lo' := w1.heap.size) (by first | omega | (simp; omega))).keep fun x hx => by have hq := h1.blk x hx; (try simp at hq); exact (by (repeat (first | with_reducible exact Kp.refl _ _ | (with_reducible refine Kp.rng ?_ (by assumption) ?_) | (with_reducible refine Kp.below ?_ (by assumption)) | (with_reducible refine Kp.grown ?_ (by assumption) ?_) | (with_reducible refine Kp.alloc ?_ _) | (with_reducible refine Kp.drew ?_) | (with_reducible refine Kp.drewN ?_ _) | (with_reducible refine Kp.setCell ?_ _ ?_))) <;> (first | omega | (simp; done) | (simp; omega)))), (fun x hx => by have hq := (h1.blk x hx).2.2.1; (try simp at hq); omega), ((h3.lo (lo' := w1.heap.size) (by first | omega | (simp; omega))).keep fun x hx => by have hq := h3.blk x hx; (try simp at hq); exact (by (repeat (first | with_reducible exact Kp.refl _ _ | (with_reducible refine Kp.rng ?_ (by assumption) ?_) | (with_reducible refine Kp.below ?_ (by assumption)) | (with_reducible refine Kp.grown ?_ (by assumption) ?_) | (with_reducible refine Kp.alloc ?_ _) | (with_reducible refine Kp.drew ?_) | (with_reducible refine Kp.drewN ?_ _) | (with_reducible refine Kp.setCell ?_ _ ?_))) <;> (first | omega | (simp; done) | (simp; omega)))), (fun x hx => by have hq := (h3.blk x hx).2.2.1; (try simp at hq); omega), (by (repeat (first | with_reducible exact Below.refl _ _ | (with_reducible refine bel_next ?_ ?_ (by assumption)) | (with_reducible refine Below.alloc ?_ ?_ _) | (with_reducible refine Below.drew ?_) | (with_reducible refine below_drewN ?_ _) | (with_reducible refine Below.setCell ?_ ?_ _))) <;> (first | omega | (simp; done) | (simp; omega)))⟩
                  | exact ⟨w9.heap.size, y1, y2, c3, x1, x2, g3, rfl, rfl, rfl, (by first | (go_simp; done) | assumption), (by first | (go_simp; done) | assumption), ((h1.lo (lo' := w1.heap.size) (by first | omega | (simp; omega))).keep fun x hx => by have hq := h1.blk x hx; (try simp at hq); exact (by (repeat (first | with_reducible exact Kp.refl _ _ | (with_reducible refine Kp.rng ?_ (by assumption) ?_) | (with_reducible refine Kp.below ?_ (by assumption)) | (with_reducible refine Kp.grown ?_ (by assumption) ?_) | (with_reducible refine Kp.alloc ?_ _) | (with_reducible refine Kp.drew ?_) | (with_reducible refine Kp.drewN ?_ _) | (with_reducible refine Kp.setCell ?_ _ ?_))) <;> (first | omega | (simp; done) | (simp; omega)))), (fun x hx => by have hq := (h1.blk x hx).2.2.1; (try simp at hq); omega), ((h3.lo (lo' := w1.heap.size) (by first | omega | (simp; omega))).keep fun x hx => by have hq := h3.blk x hx; (try simp at hq); exact (by (repeat (first | with_reducible exact Kp.refl _ _ | (with_reducible refine Kp.rng ?_ (by assumption) ?_) | (with_reducible refine Kp.below ?_ (by assumption)) | (with_reducible refine Kp.grown ?_ (by assumption) ?_) | (with_reducible refine Kp.alloc ?_ _) | (with_reducible refine Kp.drew ?_) | (with_reducible refine Kp.drewN ?_ _) | (with_reducible refine Kp.setCell ?_ _ ?_))) <;> (first | omega | (simp; done) | (simp; omega)))), (fun x hx => by have hq := (h3.blk x hx).2.2.1; (try simp at hq); omega), (by (repeat (first | with_reducible exact Below.refl _ _ | (with_reducible refine bel_next ?_ ?_ (by assumption)) | (with_reducible refine Below.alloc ?_ ?_ _) | (with_reducible refine Below.drew ?_) | (with_reducible refine below_drewN ?_ _) | (with_reducible refine Below.setCell ?_ ?_ _))) <;> (first | omega | (simp; done) | (simp; omega)))⟩
              case rest =>
                obtain ⟨bn, y1, y2, c3, x1, x2, g3, rfl, rfl, rfl, n0, n1, h1, hx1, h3, hx3, hbx⟩ := hcut
                obtain ⟨bg, og, rfl, _, _⟩ := h3.rd.elem 0 (by rw [HPL.out]; omega)
                obtain rfl : og = 0 := (h3.blk _ rfl).1
                have hbg := hx3 _ rfl
                simp only at hbg
                have HCC := Lib.hid (HCA.out.below hbx)
                have HC2 := Lib.hid (HCC.out.cset (b2 := x2) (e2 := y2) h1 (fun a ha => by have := hx1 a ha; exact ⟨by omega, by omega, by omega⟩))
                have hrv : RvOk ((wc.setCell ⟨w2.heap.size, 0, none⟩ (.slice x1 PG.length y1)).setCell ⟨w2.heap.size, 1, none⟩ (.slice x2 0 y2)) (Aq w2.heap.size g go) ⟨some ⟨bg, 0, none⟩, c3, PT⟩ := by
                  have r0 : RvOk wc (Aq w2.heap.size g go) ⟨some ⟨bg, 0, none⟩, c3, PT⟩ := ⟨HPL.out, by have := own_cap' h3; rw [HPL.out] at this; exact this, h3.rd, fun b off e => by cases e; exact ⟨by omega, by omega, by omega⟩⟩
                  refine r0.keepB fun b off e => ?_
                  cases e
                  have hne2 : bg ≠ w2.heap.size := by omega
                  exact (by (repeat (first | with_reducible exact Kp.refl _ _ | (with_reducible refine Kp.rng ?_ (by assumption) ?_) | (with_reducible refine Kp.below ?_ (by assumption)) | (with_reducible refine Kp.grown ?_ (by assumption) ?_) | (with_reducible refine Kp.alloc ?_ _) | (with_reducible refine Kp.drew ?_) | (with_reducible refine Kp.drewN ?_ _) | (with_reducible refine Kp.setCell ?_ _ ?_))) <;> (first | omega | (simp; done) | (simp; omega)))
                have HN := Lib.hid (HC2.out.rset (j := nd) hrv)
                have kc0 := HCC.out.c0
                have kc1 := HCC.out.c1
                have kf0 := HCC.out.f0
                have kf1 := HCC.out.f1
                have m1 := bel_keeps hbx l1
                obtain ⟨er, fr9⟩ := HCC.out.r.cellV nd (by rw [rvCells_length, HCC.out.rl]; omega)
                have nd0 : wr.heap.size ≠ w2.heap.size := by omega
                have nd1 : g ≠ w2.heap.size := by omega
                clear h1 hx1 h3 hx3 hrv l0 l2 l3 l4 l5 j0 j1 j2
                go_wp2_with fail
                go_roundw
                all_goals first
                  | (show _ < _; first | (simp [intOf]; done) | (simp [intOf]; omega))
                  | exact ⟨k + 1, go, co, y1, y2, x1, x2, PG, O, _, by omega, rfl, by go_num, by rw [HSN.out]; simp only [cmpStep, if_neg ho, Int.toNat_natCast, regsOf, List.map_set, HPG.out, HPT.out], HN.out⟩
                  | ((repeat apply Exists.intro); exact ⟨⟨k + 1, go, co, y1, y2, x1, x2, PG, O, _, by omega, rfl, by go_num, by rw [HSN.out]; simp only [cmpStep, if_neg ho, Int.toNat_natCast, regsOf, List.map_set, HPG.out, HPT.out], HN.out⟩, rfl⟩)
          · obtain rfl : k = us.length := by omega
            have hlt' : ¬ ((us.length : Int) < (us.length : Int)) := by omega
            have q0 : wr.cell? ⟨w.heap.size, 0, none⟩ = some (.slice none 0 0) := (BU.out.cell (by simp only; omega)).trans HK0.out
            have q1 : wr.cell? ⟨w.heap.size, 1, none⟩ = some (.slice none 0 0) := (BU.out.cell (by simp only; omega)).trans HK1.out
            have q2 : wr.frozen? ⟨w.heap.size, 0, none⟩ = false := (BU.out.frozen (by simp only; omega)).trans HF0.out
            have q3 : wr.frozen? ⟨w.heap.size, 1, none⟩ = false := (BU.out.frozen (by simp only; omega)).trans HF1.out
            have nwb : w.heap.size ≠ w2.heap.size := by omega
            have nwc : w2.heap.size ≠ w.heap.size := by omega
            go_wp2_with fail
            refine bodyPost_ret (v := .tuple #[.agg #[.slice a1 G.length d1, .slice (some ⟨go, 0, none⟩) O.length co], .bool true]) (by simp [results, Try.results38, go_sem, *]) rfl ?_
            have hst := HST.out
            rw [List.take_length] at hst
            have eG : cmpG us true = G := by simp [cmpG, hst]
            have eO : cmpO us true = O := by simp [cmpO, hst]
            rw [eG, eO]
            refine ⟨a1, d1, some ⟨go, 0, none⟩, co, rfl, (HCS.out.g.lo (by omega)).keep fun x hx => ?_, (HCS.out.o.lo (by omega)).later ?_, fun x y hx hy e => ?_, ?_⟩
            · have hq := HCS.out.g.blk x hx
              have hq2 := HCS.out.gn x hx
              exact (by (repeat (first | with_reducible exact Kp.refl _ _ | (with_reducible refine Kp.rng ?_ (by assumption) ?_) | (with_reducible refine Kp.below ?_ (by assumption)) | (with_reducible refine Kp.grown ?_ (by assumption) ?_) | (with_reducible refine Kp.alloc ?_ _) | (with_reducible refine Kp.drew ?_) | (with_reducible refine Kp.drewN ?_ _) | (with_reducible refine Kp.setCell ?_ _ ?_))) <;> (first | omega | (simp; done) | (simp; omega)))
            · exact (by (repeat (first | with_reducible exact Kp.refl _ _ | (with_reducible refine Kp.rng ?_ (by assumption) ?_) | (with_reducible refine Kp.below ?_ (by assumption)) | (with_reducible refine Kp.grown ?_ (by assumption) ?_) | (with_reducible refine Kp.alloc ?_ _) | (with_reducible refine Kp.drew ?_) | (with_reducible refine Kp.drewN ?_ _) | (with_reducible refine Kp.setCell ?_ _ ?_))) <;> (first | omega | (simp; done) | (simp; omega)))
            · cases hy; exact (HCS.out.gn x hx).2.2 e
            · have hbu := BU.out
              have hb1 := HB1.out
              exact (by (repeat (first | with_reducible exact Below.refl _ _ | (with_reducible refine bel_next ?_ ?_ (by assumption)) | (with_reducible refine Below.alloc ?_ ?_ _) | (with_reducible refine Below.drew ?_) | (with_reducible refine below_drewN ?_ _) | (with_reducible refine Below.setCell ?_ ?_ _))) <;> (first | omega | (simp; done) | (simp; omega)))

end Go.Proofs.Ytfcijloiebnloaa

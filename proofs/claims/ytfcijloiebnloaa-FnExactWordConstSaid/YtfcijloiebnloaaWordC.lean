/- The constant word, the program. -/
import Derived.Test.YtfcijloiebnloaaWordS
import Derived.StillTailTactics
import Derived.Deep.RegionHeld3
import Derived.Deep.RegionLaw
namespace Go.Proofs.Ytfcijloiebnloaa
open Go.RowKit
set_option linter.unusedVariables false
set_option linter.unusedSimpArgs false

theorem roomB_room0 {gs : List Gt} {os : List Int} (h : roomB gs os = true) : gs.length ≤ 5900 := by
  simp [roomB] at h; omega

set_option maxRecDepth 20000 in
set_option maxHeartbeats 8000000 in
theorem iWordConst_any (gs : List Gt) (os : List Int) (a1 a2 : Option Addr) (c1 c2 : Nat) (w : World) (hm : gs.length ≤ 1048576) (hm2 : os.length ≤ 1048576) (hr : RdC w a1 (gtCells gs)) (hr2 : RdC w a2 (I64 os)) (n0 : Int)   :
    Calls Try.prog 15 #[.agg #[.slice a1 gs.length c1, .slice a2 os.length c2], .int .i64 n0] w fun e w' => PostW w w' e (wP (roomB gs os && inB n0 0 15) (constP n0 gs) gs []).1 os (wP (roomB gs os && inB n0 0 15) (constP n0 gs) gs []).2 := by
  have HR := Lib.hid hr
  have HR2 := Lib.hid hr2
  clear hr hr2
  have nH : w.heap.size ≠ w.heap.size + 1 := by omega
  obtain ⟨PG, hPG⟩ : ∃ z, z = (wP (roomB gs os && inB n0 0 15) (constP n0 gs) gs []).1 := ⟨_, rfl⟩
  obtain ⟨PW, hPW⟩ : ∃ z, z = (wP (roomB gs os && inB n0 0 15) (constP n0 gs) gs []).2 := ⟨_, rfl⟩
  rw [← hPG, ← hPW]
  have HPG := Lib.hid hPG
  have HPW := Lib.hid hPW
  clear hPG hPW
  go_enter Try.func15, Try.ntmps15
  go_wp2_with fail
  refine (copyCircuit_any gs os _ _ _ _ _ hm hm2 (HR.out.below (by (repeat (first | with_reducible exact Below.refl _ _ | (with_reducible refine bel_next ?_ ?_ (by assumption)) | (with_reducible refine Below.alloc ?_ ?_ _) | (with_reducible refine Below.drew ?_) | (with_reducible refine below_drewN ?_ _) | (with_reducible refine Below.setCell ?_ ?_ _))) <;> (first | omega | (simp; done) | (simp; omega)))) (HR2.out.below (by (repeat (first | with_reducible exact Below.refl _ _ | (with_reducible refine bel_next ?_ ?_ (by assumption)) | (with_reducible refine Below.alloc ?_ ?_ _) | (with_reducible refine Below.drew ?_) | (with_reducible refine below_drewN ?_ _) | (with_reducible refine Below.setCell ?_ ?_ _))) <;> (first | omega | (simp; done) | (simp; omega))))).mono ?_
  rintro e w1 ⟨g1, d1, g2, d2, rfl, ho1, ho2, hne, hb1⟩
  have z1 := hb1.size
  (try simp at z1)
  have y1a : w.heap.size < w1.heap.size := (by omega)
  have y1b : w.heap.size + 1 < w1.heap.size := (by omega)
  have k1_0 := bel_keeps hb1 (b := w.heap.size) (o := 0) (v := .slice a1 gs.length c1) (by first | (go_simp; done) | assumption)
  have k1_1 := bel_keeps hb1 (b := w.heap.size) (o := 1) (v := .slice a2 os.length c2) (by first | (go_simp; done) | assumption)
  have k1_2 := bel_keeps hb1 (b := w.heap.size + 1) (o := 0) (v := .slice none 0 0) (by first | (go_simp; done) | assumption)
  have k1_3 := bel_keeps hb1 (b := w.heap.size + 1) (o := 1) (v := .slice none 0 0) (by first | (go_simp; done) | assumption)
  have f1_0 := bel_free hb1 (b := w.heap.size + 1) (o := 0) (by first | omega | (simp; done) | (simp; omega)) (by first | (go_simp; done) | assumption)
  have f1_1 := bel_free hb1 (b := w.heap.size + 1) (o := 1) (by first | omega | (simp; done) | (simp; omega)) (by first | (go_simp; done) | assumption)
  have hbw1 : Below w.heap.size w w1 := (by (repeat (first | with_reducible exact Below.refl _ _ | (with_reducible refine bel_next ?_ ?_ (by assumption)) | (with_reducible refine Below.alloc ?_ ?_ _) | (with_reducible refine Below.drew ?_) | (with_reducible refine below_drewN ?_ _) | (with_reducible refine Below.setCell ?_ ?_ _))) <;> (first | omega | (simp; done) | (simp; omega)))
  go_wp2_with fail
  obtain ⟨W, hW⟩ : ∃ W, W = w1.alloc (.cells #[.slice (some ⟨g1, 0, none⟩) gs.length d1, .slice (some ⟨g2, 0, none⟩) os.length d2] 72) := ⟨_, rfl⟩
  obtain ⟨bx, hbx⟩ : ∃ b, b = w1.heap.size := ⟨_, rfl⟩
  rw [← hW, ← hbx]
  have hbW : Below w1.heap.size w1 W := by rw [hW]; exact (Below.refl _ _).alloc (Nat.le_refl _) _
  have HWB := Lib.hid (WB.start (w0 := w) (w := W) (bx := bx) (ho1.lo (by simp)) (ho2.lo (by simp)) hne (hbw1.trans (hbW.mono (by omega))) hbW hbx (by rw [hW]; simp) (by rw [hW, hbx]; go_simp) (by rw [hW, hbx]; go_simp) (by rw [hW, hbx]; go_simp) (by rw [hW, hbx]; go_simp))
  have hbb : w.heap.size + 2 ≤ bx := by omega
  have zW := hbW.size
  (try simp at zW)
  have yWa : w.heap.size < W.heap.size := (by omega)
  have yWb : w.heap.size + 1 < W.heap.size := (by omega)
  have kW_0 := bel_keeps hbW (b := w.heap.size) (o := 0) (v := .slice a1 gs.length c1) (by first | (go_simp; done) | assumption)
  have kW_1 := bel_keeps hbW (b := w.heap.size) (o := 1) (v := .slice a2 os.length c2) (by first | (go_simp; done) | assumption)
  have kW_2 := bel_keeps hbW (b := w.heap.size + 1) (o := 0) (v := .slice none 0 0) (by first | (go_simp; done) | assumption)
  have kW_3 := bel_keeps hbW (b := w.heap.size + 1) (o := 1) (v := .slice none 0 0) (by first | (go_simp; done) | assumption)
  have fW_0 := bel_free hbW (b := w.heap.size + 1) (o := 0) (by first | omega | (simp; done) | (simp; omega)) (by first | (go_simp; done) | assumption)
  have fW_1 := bel_free hbW (b := w.heap.size + 1) (o := 1) (by first | omega | (simp; done) | (simp; omega)) (by first | (go_simp; done) | assumption)
  clear k1_0 k1_1 k1_2 k1_3 f1_0 f1_1
  clear hW hbx hbW ho1 ho2 hne hb1 hbw1
  have hlW := HWB.out.l
  refine (isWordOf0_any gs os _ _ _ _ _ hm hm2 (HR.out.below hlW) (HR2.out.below hlW)).mono ?_
  rintro e w9 ⟨rfl, hb9⟩
  have HWB9 := Lib.hid (HWB.out.below hb9)
  have z9 := hb9.size
  (try simp at z9)
  have y9a : w.heap.size < w9.heap.size := (by omega)
  have y9b : w.heap.size + 1 < w9.heap.size := (by omega)
  have k9_0 := bel_keeps hb9 (b := w.heap.size) (o := 0) (v := .slice a1 gs.length c1) (by first | (go_simp; done) | assumption)
  have k9_1 := bel_keeps hb9 (b := w.heap.size) (o := 1) (v := .slice a2 os.length c2) (by first | (go_simp; done) | assumption)
  have k9_2 := bel_keeps hb9 (b := w.heap.size + 1) (o := 0) (v := .slice none 0 0) (by first | (go_simp; done) | assumption)
  have k9_3 := bel_keeps hb9 (b := w.heap.size + 1) (o := 1) (v := .slice none 0 0) (by first | (go_simp; done) | assumption)
  have f9_0 := bel_free hb9 (b := w.heap.size + 1) (o := 0) (by first | omega | (simp; done) | (simp; omega)) (by first | (go_simp; done) | assumption)
  have f9_1 := bel_free hb9 (b := w.heap.size + 1) (o := 1) (by first | omega | (simp; done) | (simp; omega)) (by first | (go_simp; done) | assumption)
  clear kW_0 kW_1 kW_2 kW_3 fW_0 fW_1
  clear hb9
  cases hq : roomB gs os
  · have e1 : PG = gs := by rw [HPG.out, show (roomB gs os && inB n0 0 15) = false from by rw [hq]; rfl]; rfl
    have e2 : PW = [] := by rw [HPW.out, show (roomB gs os && inB n0 0 15) = false from by rw [hq]; rfl]; rfl
    have HE1 := Lib.hid e1
    have HE2 := Lib.hid e2
    clear e1 e2
    obtain ⟨adR, capR, hcR, _, _⟩ := HWB9.out.b.row
    have hc1R := HWB9.out.b.snd
    have hlR := HWB9.out.l
    go_wp2_with fail
    refine bodyPost_ret (v := .tuple #[.agg #[.slice adR gs.length capR, .slice (some ⟨g2, 0, none⟩) os.length d2], .slice none 0 0]) (by simp [results, Try.results15, go_sem, *]) rfl ?_
    rw [HE1.out, HE2.out]
    exact HWB9.out.postW hcR rfl (own_nil _ _ _ _) (fun y e => by cases e) (Nat.le_refl _) (fun b hb => (by (repeat (first | with_reducible exact Kp.refl _ _ | (with_reducible refine Kp.rng ?_ (by assumption) ?_) | (with_reducible refine Kp.below ?_ (by assumption)) | (with_reducible refine Kp.grown ?_ (by assumption) ?_) | (with_reducible refine Kp.alloc ?_ _) | (with_reducible refine Kp.drew ?_) | (with_reducible refine Kp.drewN ?_ _) | (with_reducible refine Kp.setCell ?_ _ ?_))) <;> (first | omega | (simp; done) | (simp; omega)))) (by (repeat (first | with_reducible exact Below.refl _ _ | (with_reducible refine bel_next ?_ ?_ (by assumption)) | (with_reducible refine Below.alloc ?_ ?_ _) | (with_reducible refine Below.drew ?_) | (with_reducible refine below_drewN ?_ _) | (with_reducible refine Below.setCell ?_ ?_ _))) <;> (first | omega | (simp; done) | (simp; omega) | (simp [World.setCell]; omega)))
  · have hn1 : allB [n0] 0 15 = inB n0 0 15 := by simp [allB]
    have HN1 := Lib.hid hn1
    clear hn1
    go_wp2_with fail
    refine (areNibbles_any [n0] _ _ _ (by simp [maxLen]) (.inr ⟨w9.heap.size, 0, rfl, fun i hi => by (obtain rfl : i = 0 := by simpa using hi); go_simp; rfl⟩)).mono ?_
    rintro e w10 ⟨rfl, hw10⟩
    rw [HN1.out]
    have hb10 : Below w9.heap.size w9 w10 := by rw [← hw10]; exact (Below.refl _ _).alloc (Nat.le_refl _) _
    have HWB10 := Lib.hid (HWB9.out.below hb10)
    have z10 := hb10.size
    (try simp at z10)
    have y10a : w.heap.size < w10.heap.size := (by omega)
    have y10b : w.heap.size + 1 < w10.heap.size := (by omega)
    have k10_0 := bel_keeps hb10 (b := w.heap.size) (o := 0) (v := .slice a1 gs.length c1) (by first | (go_simp; done) | assumption)
    have k10_1 := bel_keeps hb10 (b := w.heap.size) (o := 1) (v := .slice a2 os.length c2) (by first | (go_simp; done) | assumption)
    have k10_2 := bel_keeps hb10 (b := w.heap.size + 1) (o := 0) (v := .slice none 0 0) (by first | (go_simp; done) | assumption)
    have k10_3 := bel_keeps hb10 (b := w.heap.size + 1) (o := 1) (v := .slice none 0 0) (by first | (go_simp; done) | assumption)
    have f10_0 := bel_free hb10 (b := w.heap.size + 1) (o := 0) (by first | omega | (simp; done) | (simp; omega)) (by first | (go_simp; done) | assumption)
    have f10_1 := bel_free hb10 (b := w.heap.size + 1) (o := 1) (by first | omega | (simp; done) | (simp; omega)) (by first | (go_simp; done) | assumption)
    clear k9_0 k9_1 k9_2 k9_3 f9_0 f9_1
    clear hb10
    clear hw10
    cases hi : inB n0 0 15
    · have e1 : PG = gs := by rw [HPG.out, show (roomB gs os && inB n0 0 15) = false from by rw [hi]; simp]; rfl
      have e2 : PW = [] := by rw [HPW.out, show (roomB gs os && inB n0 0 15) = false from by rw [hi]; simp]; rfl
      have HE1 := Lib.hid e1
      have HE2 := Lib.hid e2
      clear e1 e2
      obtain ⟨adR, capR, hcR, _, _⟩ := HWB10.out.b.row
      have hc1R := HWB10.out.b.snd
      have hlR := HWB10.out.l
      go_wp2_with fail
      refine bodyPost_ret (v := .tuple #[.agg #[.slice adR gs.length capR, .slice (some ⟨g2, 0, none⟩) os.length d2], .slice none 0 0]) (by simp [results, Try.results15, go_sem, *]) rfl ?_
      rw [HE1.out, HE2.out]
      exact HWB10.out.postW hcR rfl (own_nil _ _ _ _) (fun y e => by cases e) (Nat.le_refl _) (fun b hb => (by (repeat (first | with_reducible exact Kp.refl _ _ | (with_reducible refine Kp.rng ?_ (by assumption) ?_) | (with_reducible refine Kp.below ?_ (by assumption)) | (with_reducible refine Kp.grown ?_ (by assumption) ?_) | (with_reducible refine Kp.alloc ?_ _) | (with_reducible refine Kp.drew ?_) | (with_reducible refine Kp.drewN ?_ _) | (with_reducible refine Kp.setCell ?_ _ ?_))) <;> (first | omega | (simp; done) | (simp; omega)))) (by (repeat (first | with_reducible exact Below.refl _ _ | (with_reducible refine bel_next ?_ ?_ (by assumption)) | (with_reducible refine Below.alloc ?_ ?_ _) | (with_reducible refine Below.drew ?_) | (with_reducible refine below_drewN ?_ _) | (with_reducible refine Below.setCell ?_ ?_ _))) <;> (first | omega | (simp; done) | (simp; omega) | (simp [World.setCell]; omega)))
    · have e1 : PG = (constP n0 gs).1 := by rw [HPG.out, show (roomB gs os && inB n0 0 15) = true from by rw [hq, hi]; rfl]; rfl
      have e2 : PW = (constP n0 gs).2 := by rw [HPW.out, show (roomB gs os && inB n0 0 15) = true from by rw [hq, hi]; rfl]; rfl
      have HE1 := Lib.hid e1
      have HE2 := Lib.hid e2
      clear e1 e2
      have h59 := roomB_room0 hq
      have hi2 := hi
      simp [inB] at hi2
      obtain ⟨hx0, hx1⟩ := hi2
      obtain ⟨W9, hW9⟩ : ∃ X, X = w10.alloc (.cells #[] 3) := ⟨_, rfl⟩
      have HS0 := Lib.hid (show Bs w10 W9 (w.heap.size + 2) bx gs (.slice (some ⟨g2, 0, none⟩) os.length d2) w10.heap.size 0 0 [] by rw [hW9]; exact Bs.start HWB10.out.b)
      have hBl := HWB10.out.b.le
      go_wp2_with fail
      rw [← hW9]
      clear hW9
      go_loopw [7, 8] (fun u i wr => ∃ (k ct gt : Nat) (G : List Gt) (T : List Int), k ≤ 4 ∧ i = .int .i64 k ∧ u = .slice (some ⟨gt, 0, none⟩) k ct ∧ rnds (fun h k => put1 h ⟨2, (n0 / 2 ^ k) % 2, 0⟩) gs k = (G, T) ∧ Bs w10 wr (w.heap.size + 2) bx G (.slice (some ⟨g2, 0, none⟩) os.length d2) gt k ct T) (fun _ i _ => 4 - (intOf i).toNat)
      case atStart => exact ⟨0, 0, _, _, _, Nat.zero_le _, rfl, rfl, rfl, HS0.out⟩
      case round =>
        obtain ⟨k, ct, gt, G, T, hk, rfl, rfl, hsp, hbs⟩ := hrel
        have hGl := rnds_le (f := fun h k => put1 h ⟨2, (n0 / 2 ^ k) % 2, 0⟩) (m := 1) (by intro h k; simp [put1]) gs k
        rw [hsp] at hGl
        simp only at hGl
        have HSP := Lib.hid hsp
        have HBS := Lib.hid hbs
        have zr := hbs.l.size
        have gtl := hbs.ge
        clear hsp hbs
        by_cases hlt : k < 4
        · have hk' : (k : Int) < 4 := by omega
          have HST := Lib.hid (rnds_succ (fun h k => put1 h ⟨2, (n0 / 2 ^ k) % 2, 0⟩) gs k HSP.out)
          have HBT := Lib.hid (bit_and4 hx0 hx1 hlt)
          go_wp2_with fail
          refine (bgate_any G 2 _ 0 (.slice (some ⟨g2, 0, none⟩) os.length d2) (w.heap.size + 2) bx _ (HBS.out).b (by first | omega | (simp; omega))).mono ?_
          rintro e w2 ⟨rfl, hB2, hF2, hL2⟩
          rw [HBT.out] at hB2
          obtain ⟨G1, e1⟩ : ∃ X, X = G ++ [⟨2, n0 / 2 ^ k % 2, 0⟩] := ⟨_, rfl⟩
          rw [← e1] at hB2
          have l1 : G1.length = G.length + 1 := by rw [e1]; simp
          have E1 := Lib.hid e1
          have S1 := Lib.hid ((HBS.out).on hB2 hF2 hL2)
          have z1 : wr.heap.size ≤ w2.heap.size := hL2.size
          have L1 := Lib.hid l1
          have n1 : G1.length ≤ 900000 + 100 + 0 := by omega
          clear e1 hB2 hF2 hL2 l1
          go_wp2_with (refine wpList_push _ rfl (.tmp 31) (.tmp 38) rfl w10.heap.size gt k ct T (G.length : Int) w2.heap.size 1 (by rfl) (by rfl) (S1.out.o.alloc _) (by go_simp) (by omega) (by simp; omega) ?_; intro g6 d6 w8 ho6 hb6 hg6 hat6)
          have HN : Hid (rnds (fun h k => put1 h ⟨2, (n0 / 2 ^ k) % 2, 0⟩) gs (k + 1) = (G1, T ++ [(G.length : Int)])) := by show _ = _; rw [HST.out, E1.out]; simp [put1]
          have HP := Lib.hid (S1.out.push _ ho6 hb6 hg6 hat6)
          clear ho6 hb6 hg6 hat6
          go_wp2_with fail
          go_roundw
          case rel => exact ⟨k + 1, d6, g6, _, _, by omega, by go_num, rfl, HN.out, HP.out⟩
          case measure => first | (simp [intOf]; done) | (simp [intOf]; omega)
        · obtain rfl : k = 4 := by omega
          have hp : constP n0 gs = (G, T) := HSP.out
          rw [hp] at HE1 HE2
          clear hp
          have HWB11 := Lib.hid (HWB10.out.on HBS.out.b HBS.out.r HBS.out.l)
          have k11_0 := Fr.cell HBS.out.r (HWB10.out.b.frn_lo (by omega)) k10_0
          have k11_1 := Fr.cell HBS.out.r (HWB10.out.b.frn_lo (by omega)) k10_1
          have k11_2 := Fr.cell HBS.out.r (HWB10.out.b.frn_lo (by omega)) k10_2
          have k11_3 := Fr.cell HBS.out.r (HWB10.out.b.frn_lo (by omega)) k10_3
          have f11_0 := Fr.free HBS.out.r (HWB10.out.b.frn_lo (by omega)) f10_0
          have f11_1 := Fr.free HBS.out.r (HWB10.out.b.frn_lo (by omega)) f10_1
          clear k10_0 k10_1 k10_2 k10_3 f10_0 f10_1
          have HS11 := HBS
          obtain ⟨adR, capR, hcR, _, _⟩ := HWB11.out.b.row
          have hc1R := HWB11.out.b.snd
          have hlR := HWB11.out.l
          go_wp2_with fail
          refine bodyPost_ret (v := .tuple #[.agg #[.slice adR (G).length capR, .slice (some ⟨g2, 0, none⟩) os.length d2], .slice (some ⟨gt, 0, none⟩) 4 ct]) (by simp [results, Try.results15, go_sem, *]) rfl ?_
          rw [HE1.out, HE2.out]
          exact HWB11.out.postW hcR (by have := HS11.out.o.len; simpa using this.symm) (by have h1 := HS11.out.ge; have h2 := HWB10.out.b.le; exact HS11.out.o.later (by (repeat (first | with_reducible exact Kp.refl _ _ | (with_reducible refine Kp.rng ?_ (by assumption) ?_) | (with_reducible refine Kp.below ?_ (by assumption)) | (with_reducible refine Kp.grown ?_ (by assumption) ?_) | (with_reducible refine Kp.alloc ?_ _) | (with_reducible refine Kp.drew ?_) | (with_reducible refine Kp.drewN ?_ _) | (with_reducible refine Kp.setCell ?_ _ ?_))) <;> (first | omega | (simp; done) | (simp; omega)))) (fun y e => by obtain rfl := Option.some.inj e; exact ⟨HS11.out.f.2.2, by have h1 := HS11.out.ge; have h2 := HWB10.out.f.1; show gt ≠ g2; omega⟩) (by have := HWB10.out.b.le; omega) (fun b hb => (by (repeat (first | with_reducible exact Kp.refl _ _ | (with_reducible refine Kp.rng ?_ (by assumption) ?_) | (with_reducible refine Kp.below ?_ (by assumption)) | (with_reducible refine Kp.grown ?_ (by assumption) ?_) | (with_reducible refine Kp.alloc ?_ _) | (with_reducible refine Kp.drew ?_) | (with_reducible refine Kp.drewN ?_ _) | (with_reducible refine Kp.setCell ?_ _ ?_))) <;> (first | omega | (simp; done) | (simp; omega)))) (by (repeat (first | with_reducible exact Below.refl _ _ | (with_reducible refine bel_next ?_ ?_ (by assumption)) | (with_reducible refine Below.alloc ?_ ?_ _) | (with_reducible refine Below.drew ?_) | (with_reducible refine below_drewN ?_ _) | (with_reducible refine Below.setCell ?_ ?_ _))) <;> (first | omega | (simp; done) | (simp; omega)))
end Go.Proofs.Ytfcijloiebnloaa

/- The product, the program. -/
import Derived.Test.YtfcijloiebnloaaWordI
import Derived.Test.YtfcijloiebnloaaMulF
import Derived.StillTailTactics
import Derived.Deep.RegionHeld3
import Derived.Deep.RegionLaw
namespace Go.Proofs.Ytfcijloiebnloaa
open Go.RowKit
set_option linter.unusedVariables false
set_option linter.unusedSimpArgs false

set_option maxRecDepth 20000 in
set_option maxHeartbeats 8000000 in
theorem iWordMul_any (gs : List Gt) (os : List Int) (a1 a2 : Option Addr) (c1 c2 : Nat) (w : World) (hm : gs.length ≤ 1048576) (hm2 : os.length ≤ 1048576) (hr : RdC w a1 (gtCells gs)) (hr2 : RdC w a2 (I64 os))  (xs : List Int) (nx : Nat) (ax : Option Addr) (cx : Nat) (hlx : xs.length = nx) (hmx : nx ≤ 1048576) (hrx : RdC w ax (I64 xs)) (ys : List Int) (ny : Nat) (ay : Option Addr) (cy : Nat) (hly : ys.length = ny) (hmy : ny ≤ 1048576) (hry : RdC w ay (I64 ys))  :
    Calls Try.prog 34 #[.agg #[.slice a1 gs.length c1, .slice a2 os.length c2], .slice ax nx cx, .slice ay ny cy] w fun e w' => PostW w w' e (wP (askB gs os xs ys) (mulP xs ys gs) gs []).1 os (wP (askB gs os xs ys) (mulP xs ys gs) gs []).2 := by
  have HR := Lib.hid hr
  have HR2 := Lib.hid hr2
  have HRx := Lib.hid hrx
  have HRy := Lib.hid hry
  clear hr hr2 hrx hry
  have nH : w.heap.size ≠ w.heap.size + 1 := by omega
  obtain ⟨PG, hPG⟩ : ∃ z, z = (wP (askB gs os xs ys) (mulP xs ys gs) gs []).1 := ⟨_, rfl⟩
  obtain ⟨PW, hPW⟩ : ∃ z, z = (wP (askB gs os xs ys) (mulP xs ys gs) gs []).2 := ⟨_, rfl⟩
  rw [← hPG, ← hPW]
  have HPG := Lib.hid hPG
  have HPW := Lib.hid hPW
  clear hPG hPW
  go_enter Try.func34, Try.ntmps34
  go_wp2_with fail
  refine (copyCircuit_any gs os _ _ _ _ _ hm hm2 (HR.out.below (by (repeat (first | with_reducible exact Below.refl _ _ | (with_reducible refine bel_next ?_ ?_ (by assumption)) | (with_reducible refine Below.alloc ?_ ?_ _) | (with_reducible refine Below.drew ?_) | (with_reducible refine below_drewN ?_ _) | (with_reducible refine Below.setCell ?_ ?_ _))) <;> (first | omega | (simp; done) | (simp; omega)))) (HR2.out.below (by (repeat (first | with_reducible exact Below.refl _ _ | (with_reducible refine bel_next ?_ ?_ (by assumption)) | (with_reducible refine Below.alloc ?_ ?_ _) | (with_reducible refine Below.drew ?_) | (with_reducible refine below_drewN ?_ _) | (with_reducible refine Below.setCell ?_ ?_ _))) <;> (first | omega | (simp; done) | (simp; omega))))).mono ?_
  rintro e w1 ⟨g1, d1, g2, d2, rfl, ho1, ho2, hne, hb1⟩
  have z1 := hb1.size
  (try simp at z1)
  have y1a : w.heap.size < w1.heap.size := (by omega)
  have y1b : w.heap.size + 1 < w1.heap.size := (by omega)
  have k1_0 := bel_keeps hb1 (b := w.heap.size) (o := 0) (v := .slice a1 gs.length c1) (by first | (go_simp; done) | assumption)
  have k1_1 := bel_keeps hb1 (b := w.heap.size) (o := 1) (v := .slice a2 os.length c2) (by first | (go_simp; done) | assumption)
  have k1_2 := bel_keeps hb1 (b := w.heap.size + 1) (o := 0) (v := .slice none 0 0) (by first | (go_simp; done) | assumption)
  have k1_3 := bel_keeps hb1 (b := w.heap.size + 1) (o := 1) (v := .slice none 0 0) (by first | (go_simp; done) | assumption)
  have f1_0 := bel_free hb1 (b := w.heap.size + 1) (o := 0) (by first | omega | (simp; done) | (simp; omega)) (by first | (go_simp; done) | assumption)
  have f1_1 := bel_free hb1 (b := w.heap.size + 1) (o := 1) (by first | omega | (simp; done) | (simp; omega)) (by first | (go_simp; done) | assumption)
  have hbw1 : Below w.heap.size w w1 := (by (repeat (first | with_reducible exact Below.refl _ _ | (with_reducible refine bel_next ?_ ?_ (by assumption)) | (with_reducible refine Below.alloc ?_ ?_ _) | (with_reducible refine Below.drew ?_) | (with_reducible refine below_drewN ?_ _) | (with_reducible refine Below.setCell ?_ ?_ _))) <;> (first | omega | (simp; done) | (simp; omega)))
  go_wp2_with fail
  obtain ⟨W, hW⟩ : ∃ W, W = w1.alloc (.cells #[.slice (some ⟨g1, 0, none⟩) gs.length d1, .slice (some ⟨g2, 0, none⟩) os.length d2] 72) := ⟨_, rfl⟩
  obtain ⟨bx, hbx⟩ : ∃ b, b = w1.heap.size := ⟨_, rfl⟩
  rw [← hW, ← hbx]
  have hWs : W.heap.size = bx + 1 := by rw [hW, hbx]; simp
  rw [← hWs]
  clear hWs
  have hbW : Below w1.heap.size w1 W := by rw [hW]; exact (Below.refl _ _).alloc (Nat.le_refl _) _
  have HWB := Lib.hid (WB.start (w0 := w) (w := W) (bx := bx) (ho1.lo (by simp)) (ho2.lo (by simp)) hne (hbw1.trans (hbW.mono (by omega))) hbW hbx (by rw [hW]; simp) (by rw [hW, hbx]; go_simp) (by rw [hW, hbx]; go_simp) (by rw [hW, hbx]; go_simp) (by rw [hW, hbx]; go_simp))
  have hbb : w.heap.size + 2 ≤ bx := by omega
  have zW := hbW.size
  (try simp at zW)
  have yWa : w.heap.size < W.heap.size := (by omega)
  have yWb : w.heap.size + 1 < W.heap.size := (by omega)
  have kW_0 := bel_keeps hbW (b := w.heap.size) (o := 0) (v := .slice a1 gs.length c1) (by first | (go_simp; done) | assumption)
  have kW_1 := bel_keeps hbW (b := w.heap.size) (o := 1) (v := .slice a2 os.length c2) (by first | (go_simp; done) | assumption)
  have kW_2 := bel_keeps hbW (b := w.heap.size + 1) (o := 0) (v := .slice none 0 0) (by first | (go_simp; done) | assumption)
  have kW_3 := bel_keeps hbW (b := w.heap.size + 1) (o := 1) (v := .slice none 0 0) (by first | (go_simp; done) | assumption)
  have fW_0 := bel_free hbW (b := w.heap.size + 1) (o := 0) (by first | omega | (simp; done) | (simp; omega)) (by first | (go_simp; done) | assumption)
  have fW_1 := bel_free hbW (b := w.heap.size + 1) (o := 1) (by first | omega | (simp; done) | (simp; omega)) (by first | (go_simp; done) | assumption)
  clear k1_0 k1_1 k1_2 k1_3 f1_0 f1_1
  clear hW hbx hbW ho1 ho2 hne hb1 hbw1
  have hlW := HWB.out.l
  refine (isWordOf2_any gs os _ _ _ _ _ hm hm2 (HR.out.below (hlW.trans (((Below.refl _ _).alloc (Nat.le_refl _) _).mono (by omega)))) (HR2.out.below (hlW.trans (((Below.refl _ _).alloc (Nat.le_refl _) _).mono (by omega)))) xs nx ax cx hlx hmx (HRx.out.below (hlW.trans (((Below.refl _ _).alloc (Nat.le_refl _) _).mono (by omega)))) ys ny ay cy hly hmy (HRy.out.below (hlW.trans (((Below.refl _ _).alloc (Nat.le_refl _) _).mono (by omega)))) W.heap.size 2 (by go_simp) (by go_simp)).mono ?_
  rintro e w9 ⟨rfl, hb0⟩
  have hb9 : Below W.heap.size W w9 := ((Below.refl _ _).alloc (Nat.le_refl _) _).trans (hb0.mono (by simp))
  clear hb0
  have HWB9 := Lib.hid (HWB.out.below hb9)
  have z9 := hb9.size
  (try simp at z9)
  have y9a : w.heap.size < w9.heap.size := (by omega)
  have y9b : w.heap.size + 1 < w9.heap.size := (by omega)
  have k9_0 := bel_keeps hb9 (b := w.heap.size) (o := 0) (v := .slice a1 gs.length c1) (by first | (go_simp; done) | assumption)
  have k9_1 := bel_keeps hb9 (b := w.heap.size) (o := 1) (v := .slice a2 os.length c2) (by first | (go_simp; done) | assumption)
  have k9_2 := bel_keeps hb9 (b := w.heap.size + 1) (o := 0) (v := .slice none 0 0) (by first | (go_simp; done) | assumption)
  have k9_3 := bel_keeps hb9 (b := w.heap.size + 1) (o := 1) (v := .slice none 0 0) (by first | (go_simp; done) | assumption)
  have f9_0 := bel_free hb9 (b := w.heap.size + 1) (o := 0) (by first | omega | (simp; done) | (simp; omega)) (by first | (go_simp; done) | assumption)
  have f9_1 := bel_free hb9 (b := w.heap.size + 1) (o := 1) (by first | omega | (simp; done) | (simp; omega)) (by first | (go_simp; done) | assumption)
  clear kW_0 kW_1 kW_2 kW_3 fW_0 fW_1
  clear hb9
  cases hq : askB gs os xs ys
  · have e1 : PG = gs := by rw [HPG.out, show (askB gs os xs ys) = false from hq]; rfl
    have e2 : PW = [] := by rw [HPW.out, show (askB gs os xs ys) = false from hq]; rfl
    have HE1 := Lib.hid e1
    have HE2 := Lib.hid e2
    clear e1 e2
    obtain ⟨adR, capR, hcR, _, _⟩ := HWB9.out.b.row
    have hc1R := HWB9.out.b.snd
    have hlR := HWB9.out.l
    go_wp2_with fail
    refine bodyPost_ret (v := .tuple #[.agg #[.slice adR gs.length capR, .slice (some ⟨g2, 0, none⟩) os.length d2], .slice none 0 0]) (by simp [results, Try.results34, go_sem, *]) rfl ?_
    rw [HE1.out, HE2.out]
    exact HWB9.out.postW hcR rfl (own_nil _ _ _ _) (fun y e => by cases e) (Nat.le_refl _) (fun b hb => (by (repeat (first | with_reducible exact Kp.refl _ _ | (with_reducible refine Kp.rng ?_ (by assumption) ?_) | (with_reducible refine Kp.below ?_ (by assumption)) | (with_reducible refine Kp.grown ?_ (by assumption) ?_) | (with_reducible refine Kp.alloc ?_ _) | (with_reducible refine Kp.drew ?_) | (with_reducible refine Kp.drewN ?_ _) | (with_reducible refine Kp.setCell ?_ _ ?_))) <;> (first | omega | (simp; done) | (simp; omega)))) (by (repeat (first | with_reducible exact Below.refl _ _ | (with_reducible refine bel_next ?_ ?_ (by assumption)) | (with_reducible refine Below.alloc ?_ ?_ _) | (with_reducible refine Below.drew ?_) | (with_reducible refine below_drewN ?_ _) | (with_reducible refine Below.setCell ?_ ?_ _))) <;> (first | omega | (simp; done) | (simp; omega) | (simp [World.setCell]; omega)))
  · have e1 : PG = (mulP xs ys gs).1 := by rw [HPG.out, show (askB gs os xs ys) = true from hq]; rfl
    have e2 : PW = (mulP xs ys gs).2 := by rw [HPW.out, show (askB gs os xs ys) = true from hq]; rfl
    have HE1 := Lib.hid e1
    have HE2 := Lib.hid e2
    clear e1 e2
    obtain ⟨hx4, hy4, h59⟩ := askB_len hq
    rw [hlx] at hx4
    rw [hly] at hy4
    subst hx4; subst hy4
    have HB := Lib.hid HWB9.out.b
    have hBl := HWB9.out.b.le
    have HN2 := Lib.hid HWB9.out.f
    have HFx := Lib.hid (HWB9.out.fra HRx.out (by omega))
    have hrox := HRx.out.below HWB9.out.l
    clear HRx
    have HRx := Lib.hid hrox
    have HLx := Lib.hid hlx
    clear hrox hlx
    have HFy := Lib.hid (HWB9.out.fra HRy.out (by omega))
    have hroy := HRy.out.below HWB9.out.l
    clear HRy
    have HRy := Lib.hid hroy
    have HLy := Lib.hid hly
    clear hroy hly
    obtain ⟨blx, offx, rfl, hbx, _⟩ := HRx.out.elem 0 (by rw [HLx.out]; omega)
    obtain ⟨bly, offy, rfl, hby, _⟩ := HRy.out.elem 0 (by rw [HLy.out]; omega)
    have HRx0 := HRx
    have HRy0 := HRy
    have HFx0 := HFx
    have HFy0 := HFy
    have hy0 : w9.cell? ⟨bly, offy, none⟩ = _ := HRy.out.elemAt 0 (by rw [HLy.out]; omega)
    obtain ⟨vy0, hvy0⟩ : ∃ z, z = at0 ys ((0 : Nat) : Int) := ⟨_, rfl⟩
    rw [← hvy0] at hy0
    have HVy0 := Lib.hid hvy0
    have HCy0 := Lib.hid hy0
    clear HRx HRy HFx HFy hvy0 hy0
    obtain ⟨W9, hW9⟩ : ∃ X, X = w9.alloc (.cells #[] 3) := ⟨_, rfl⟩
    have HS0 := Lib.hid (show Bs w9 W9 (w.heap.size + 2) bx gs (.slice (some ⟨g2, 0, none⟩) os.length d2) w9.heap.size 0 0 [] by rw [hW9]; exact Bs.start HWB9.out.b)
    have hBl := HWB9.out.b.le
    go_wp2_with fail
    rw [← hW9]
    clear hW9
    go_loopw [9, 32] (fun u i wr => ∃ (k ct gt : Nat) (G : List Gt) (T : List Int), k ≤ 4 ∧ i = .int .i64 k ∧ u = .slice (some ⟨gt, 0, none⟩) k ct ∧ rnds (fun h k => put1 h ⟨4, vy0, at0 xs k⟩) gs k = (G, T) ∧ Bs w9 wr (w.heap.size + 2) bx G (.slice (some ⟨g2, 0, none⟩) os.length d2) gt k ct T) (fun _ i _ => 4 - (intOf i).toNat)
    case atStart => exact ⟨0, 0, _, _, _, Nat.zero_le _, rfl, rfl, rfl, HS0.out⟩
    case round =>
      obtain ⟨k, ct0, gt0, G0, T0, hk, rfl, rfl, hsp, hbs⟩ := hrel
      have hGl := rnds_le (f := fun h k => put1 h ⟨4, vy0, at0 xs k⟩) (m := 1) (by intro h k; simp [put1]) gs k
      rw [hsp] at hGl
      simp only at hGl
      have HSP0 := Lib.hid hsp
      have HBS0 := Lib.hid hbs
      have zr0 := hbs.l.size
      have gtl0 := hbs.ge
      clear hsp hbs
      by_cases hlt : k < 4
      · have hk' : (k : Int) < 4 := by omega
        have hk4 : (k : Int) < 4 := by omega
        have HST := Lib.hid (rnds_succ (fun h k => put1 h ⟨4, vy0, at0 xs k⟩) gs k HSP0.out)
        have hcx := HRx0.out.elemAt k (by rw [HLx.out]; omega)
        obtain ⟨vx, hvx⟩ : ∃ z, z = at0 xs (k : Int) := ⟨_, rfl⟩
        rw [← hvx] at hcx
        have HVx := Lib.hid hvx
        have HCx := Lib.hid hcx
        have hcx0 := HBS0.out.cell (HFx0.out _ _ rfl) HCx.out
        have hcy0 := HBS0.out.cell (HFy0.out _ _ rfl) HCy0.out
        clear hvx hcx
        obtain ⟨G9, e9⟩ : ∃ X, X = G0 ++ [⟨4, vy0, vx⟩] := ⟨_, rfl⟩
        have E9 := Lib.hid e9
        clear e9
        have HN : Hid (rnds (fun h k => put1 h ⟨4, vy0, at0 xs k⟩) gs (k + 1) = (G9, T0 ++ [(G0.length : Int)])) := by show _ = _; rw [HST.out, E9.out, HVx.out]; simp [put1]
        have HPUT : ∀ W, Bld W (w.heap.size + 2) bx G0 (.slice (some ⟨g2, 0, none⟩) os.length d2) → Calls Try.prog 59 #[.pointer (some ⟨bx, 0, none⟩), .int .i64 4, .int .i64 vy0, .int .i64 vx] W fun e w' => e = .returned (.int .i64 (G0.length : Int)) ∧ Bld w' (w.heap.size + 2) bx G9 (.slice (some ⟨g2, 0, none⟩) os.length d2) ∧ Fr bx W w' ∧ Below (w.heap.size + 2) W w' := fun W h => by
          have := bgate_any G0 4 vy0 vx (.slice (some ⟨g2, 0, none⟩) os.length d2) (w.heap.size + 2) bx W h (by omega)
          rw [← E9.out] at this; exact this
        have HPT := Lib.hid HPUT
        clear HPUT
        go_wp2_with fail
        refine (HPT.out _ HBS0.out.b).mono ?_
        rintro e w2 ⟨rfl, hB2, hF2, hL2⟩
        have S1 := Lib.hid (HBS0.out.on hB2 hF2 hL2)
        have z1 : wr.heap.size ≤ w2.heap.size := hL2.size
        clear hB2 hF2 hL2
        go_wp2_with (refine wpList_push _ rfl (.tmp 36) (.tmp 43) rfl w9.heap.size gt0 k ct0 T0 (G0.length : Int) w2.heap.size 1 (by rfl) (by rfl) (S1.out.o.alloc _) (by go_simp) (by omega) (by simp; omega) ?_; intro g6 d6 w8 ho6 hb6 hg6 hat6)
        have HP := Lib.hid (S1.out.push _ ho6 hb6 hg6 hat6)
        clear ho6 hb6 hg6 hat6
        all_goals go_wp2_with fail
        all_goals go_roundw
        all_goals first
          | (show _ < _; first | (simp [intOf]; done) | (simp [intOf]; omega))
          | exact ⟨k + 1, d6, g6, _, _, by omega, by go_num, rfl, HN.out, HP.out⟩
          | ((repeat apply Exists.intro); exact ⟨⟨k + 1, d6, g6, _, _, by omega, by go_num, rfl, HN.out, HP.out⟩, rfl⟩)
      · obtain rfl : k = 4 := by omega
        obtain ⟨wr0, hwr⟩ : ∃ X, X = wr := ⟨_, rfl⟩
        subst hwr
        have HM0 : Hid (mulR xs ys gs 0 = (G0, T0)) := by show _ = _; rw [← HSP0.out, HVy0.out]; rfl
        have hlT : T0.length = 4 := by have := rnds_len (fun h k => put1 h ⟨4, vy0, at0 xs k⟩) gs 4; rw [HSP0.out] at this; exact this
        have HLT0 := Lib.hid hlT
        have HSt0 := HBS0
        have hG0 : G0.length ≤ 800004 := by omega
        obtain ⟨i0, hi, hz0, hz1, hz2⟩ := info_parts info_int
        have HI := Lib.hid (And.intro hi (And.intro hz0 (And.intro hz1 hz2)))
        clear hlT HBS0 HSP0 HS0 hGl HB hi hz0 hz1 hz2
        go_wp2_with fail
        refine wp_loop_rounds 4 ?_
        have HRx1 := Lib.hid (HSt0.out.r.rd HFx0.out HRx0.out)
        have HFx1 := Lib.hid (HSt0.out.r.fra HFx0.out)
        have HFy1 := Lib.hid (HSt0.out.r.fra HFy0.out)
        have hy := (HSt0.out.r.rd HFy0.out HRy0.out).elemAt 1 (by rw [HLy.out]; omega)
        obtain ⟨vy1, hvy⟩ : ∃ z, z = at0 ys ((1 : Nat) : Int) := ⟨_, rfl⟩
        rw [← hvy] at hy
        have HVy1 := Lib.hid hvy
        have HCy1 := Lib.hid hy
        clear hvy hy
        rw [rounds_succ]
        go_wp2_with (at_make; refine wpList_make_full _ rfl _ _ 23 rfl wr0.heap.size 3 i0 (.int .i64 0) 1 Try.underlying23 HI.out.1 HI.out.2.1 HI.out.2.2.1 .i64 .i64 _ _ 4 rfl rfl rfl rfl ?b2 ?b3 ?b4 ?_)
        case b2 => rw [HI.out.2.2.2]; omega
        case b3 => unfold maxLen; omega
        case b4 => simp
        intro W1 hown1 hgr1
        have e8 : (madeCells #[Value.int .i64 0] 4).toList = I64 (List.replicate 4 0) := made_ints 4
        have ho : Own W1 wr0.heap.size 3 1 (some ⟨wr0.heap.size, 0, none⟩) 4 4 (I64 (List.replicate 4 0)) := by rw [← e8]; exact hown1
        have hb1 : Below wr0.heap.size wr0 W1 := (Below.refl _ _).grown hgr1 (by simp) (by simp)
        have HS1 := Lib.hid (Bs.mk_list HSt0.out.b hb1 ho)
        clear hown1 hgr1 e8 ho hb1
        go_wp2_with fail
        go_loopw [14] (fun i wr => ∃ (k : Nat) (G : List Gt) (R P : List Int), k ≤ 3 ∧ i = .int .i64 k ∧ rnds (fun h k => put1 h ⟨4, vy1, at0 xs k⟩) G0 k = (G, R) ∧ P.length = 4 ∧ (P.drop 1).take k = R ∧ Bs wr0 wr (w.heap.size + 2) bx G (.slice (some ⟨g2, 0, none⟩) os.length d2) wr0.heap.size 4 4 P) (fun i _ => 3 - (intOf i).toNat)
        case atStart => exact ⟨0, _, _, _, Nat.zero_le _, rfl, rfl, by simp, rfl, HS1.out⟩
        case round =>
          obtain ⟨k, G1, R1, P1, hk, rfl, hsp, hpl, htk, hbs⟩ := hrel
          have hGl := rnds_le (f := fun h k => put1 h ⟨4, vy1, at0 xs k⟩) (m := 1) (by intro h k; simp [put1]) G0 k
          rw [hsp] at hGl
          simp only at hGl
          have HSP1 := Lib.hid hsp
          have HBS1 := Lib.hid hbs
          have HPL1 := Lib.hid hpl
          have HTK1 := Lib.hid htk
          have zr1 := hbs.l.size
          have gtl1 := hbs.ge
          clear hsp hbs hpl htk
          by_cases hlt : k < 3
          · have hk' : (k : Int) ≤ 2 := by omega
            have hk4 : (k : Int) < 4 := by omega
            have hki : (1 : Int) + (k : Int) < 4 := by omega
            have hkz : (0 : Int) ≤ (1 : Int) + (k : Int) := by omega
            have hkn : ((1 : Int) + (k : Int)).toNat = 1 + k := by omega
            have hkw : IntKind.i64.wrap ((1 : Int) + (k : Int)) = (1 : Int) + (k : Int) := wrap_i64_id (by omega) (by omega)
            have HST := Lib.hid (rnds_succ (fun h k => put1 h ⟨4, vy1, at0 xs k⟩) G0 k HSP1.out)
            have hcx := HRx1.out.elemAt k (by rw [HLx.out]; omega)
            obtain ⟨vx, hvx⟩ : ∃ z, z = at0 xs (k : Int) := ⟨_, rfl⟩
            rw [← hvx] at hcx
            have HVx := Lib.hid hvx
            have HCx := Lib.hid hcx
            have hcx0 := HBS1.out.cell (HFx1.out _ _ rfl) HCx.out
            have hcy0 := HBS1.out.cell (HFy1.out _ _ rfl) HCy1.out
            have nbx : blx ≠ wr0.heap.size := by have := (HFx1.out _ _ rfl).1; omega
            have nby : bly ≠ wr0.heap.size := by have := (HFy1.out _ _ rfl).1; omega
            obtain ⟨hp0, hf0⟩ := HBS1.out.o.intE (1 + k) (by rw [HPL1.out]; omega)
            clear hvx hcx
            obtain ⟨G9, e9⟩ : ∃ X, X = G1 ++ [⟨4, vy1, vx⟩] := ⟨_, rfl⟩
            have E9 := Lib.hid e9
            clear e9
            have HN : Hid (rnds (fun h k => put1 h ⟨4, vy1, at0 xs k⟩) G0 (k + 1) = (G9, R1 ++ [(G1.length : Int)])) := by show _ = _; rw [HST.out, E9.out, HVx.out]; simp [put1]
            have HPUT : ∀ W, Bld W (w.heap.size + 2) bx G1 (.slice (some ⟨g2, 0, none⟩) os.length d2) → Calls Try.prog 59 #[.pointer (some ⟨bx, 0, none⟩), .int .i64 4, .int .i64 vy1, .int .i64 vx] W fun e w' => e = .returned (.int .i64 (G1.length : Int)) ∧ Bld w' (w.heap.size + 2) bx G9 (.slice (some ⟨g2, 0, none⟩) os.length d2) ∧ Fr bx W w' ∧ Below (w.heap.size + 2) W w' := fun W h => by
              have := bgate_any G1 4 vy1 vx (.slice (some ⟨g2, 0, none⟩) os.length d2) (w.heap.size + 2) bx W h (by omega)
              rw [← E9.out] at this; exact this
            have HPT := Lib.hid HPUT
            clear HPUT
            go_wp2_with fail
            go_region_held3 (fun w' => w'.cell? ⟨blx, offx + k, none⟩ = some (.int .i64 vx) ∧ w'.cell? ⟨bly, offy + 1, none⟩ = some (.int .i64 vy1)) (first | go_keep)
              ((go_at_call 59; refine (HPT.out _ (HBS1.out.drew).b).mono ?_; rintro e w2 ⟨rfl, hB2, hF2, hL2⟩; have S1 := Lib.hid ((HBS1.out.drew).on hB2 hF2 hL2); have z1 : wr.heap.size ≤ w2.heap.size := hL2.size; have hcx1 := S1.out.cell (HFx1.out _ _ rfl) HCx.out; have hcy1 := S1.out.cell (HFy1.out _ _ rfl) HCy1.out; obtain ⟨hp1, hf1⟩ := S1.out.o.intE (1 + k) (by rw [HPL1.out]; omega); have HST2 := Lib.hid (S1.out.set (1 + k) (G1.length : Int)); have hcx2 := HST2.out.cell (HFx1.out _ _ rfl) HCx.out; have hcy2 := HST2.out.cell (HFy1.out _ _ rfl) HCy1.out; clear hB2 hF2 hL2))
            go_wp2_with fail
            go_roundw
            all_goals first
              | (show _ < _; first | (simp [intOf]; done) | (simp [intOf]; omega))
              | exact ⟨k + 1, _, _, _, by omega, by go_num, HN.out, by rw [List.length_set]; exact HPL1.out, fill_succ (by rw [HPL1.out]; omega) HTK1.out, HST2.out⟩
              | ((repeat apply Exists.intro); exact ⟨⟨k + 1, _, _, _, by omega, by go_num, HN.out, by rw [List.length_set]; exact HPL1.out, fill_succ (by rw [HPL1.out]; omega) HTK1.out, HST2.out⟩, rfl⟩)
          · obtain rfl : k = 3 := by omega
            obtain ⟨wr1, hwr⟩ : ∃ X, X = wr := ⟨_, rfl⟩
            subst hwr
            have hdr : P1.drop 1 = R1 := by
              have h := HTK1.out
              rwa [List.take_of_length_le (by rw [List.length_drop, HPL1.out]; omega)] at h
            have hRow : rowP (at0 ys ((0 : Nat) + 1 : Nat)) xs 3 G0 = (G1, P1.drop 1) := by rw [hdr, ← HSP1.out, HVy1.out]; rfl
            have HR1 := Lib.hid hRow
            have hown := HSt0.out.o.later (HBS1.out.r.kp HSt0.out.f)
            have HRD1 := Lib.hid hown.rd
            have hcap := own_cap' hown
            have HFR1 := Lib.hid (HBS1.out.r.frn HSt0.out.f)
            have hG1 : G1.length ≤ G0.length + 3 := by have := rnds_le (f := fun h k => put1 h ⟨4, vy1, at0 xs k⟩) (m := 1) (by intro h k; simp [put1]) G0 3; rw [HSP1.out] at this; simp only at this; omega
            clear hdr hRow hown
            go_wp2_with fail
            refine (bsum1 G1 0 (.slice (some ⟨g2, 0, none⟩) os.length d2) (w.heap.size + 2) bx _ HBS1.out.b (by omega) T0 (some ⟨gt0, 0, none⟩) ct0 HLT0.out HRD1.out (fun b off e => by cases e; exact HFR1.out) P1 (some ⟨wr0.heap.size, 0, none⟩) 4 HPL1.out HBS1.out.o.rd (fun b off e => by cases e; exact HBS1.out.f) hcap).mono ?_
            rintro e y1 ⟨gm1, cm1, rfl, hs⟩
            obtain ⟨GS1, TS1, hsum⟩ : ∃ a b, sumP (T0.drop 1) (P1.drop 1) 0 2 G1 = (a, b) := ⟨_, _, rfl⟩
            rw [hsum] at hs
            have hlen := sumP_len (T0.drop 1) (P1.drop 1) 0 2 G1
            rw [hsum] at hlen
            simp only at hlen
            have hSG : GS1.length ≤ G1.length + 20 := by omega
            obtain ⟨Tm1, hTm⟩ : ∃ X, X = T0.take 1 ++ TS1 := ⟨_, rfl⟩
            simp only [← hTm] at hs
            have hM : mulR xs ys gs 1 = (GS1, Tm1) := by rw [mulR_succ xs ys gs 0 HM0.out HR1.out]; rw [show sumP (T0.drop (0 + 1)) (P1.drop 1) 0 (2 - 0) G1 = (GS1, TS1) from hsum, hTm]
            have HM1 := Lib.hid hM
            have HLT1 : Hid (Tm1.length = 4) := by show _ = _; rw [hTm, List.length_append, List.length_take, HLT0.out, hlen.2]; rfl
            have HSt1 := Lib.hid ((HSt0.out.then HBS1.out).then hs)
            clear hsum hlen hs hTm hM hcap HBS1 HSP1 HRD1 HFR1 hk hlt HTK1
            go_wp2_with fail
            have HRx2 := Lib.hid (HSt1.out.r.rd HFx0.out HRx0.out)
            have HFx2 := Lib.hid (HSt1.out.r.fra HFx0.out)
            have HFy2 := Lib.hid (HSt1.out.r.fra HFy0.out)
            have hy := (HSt1.out.r.rd HFy0.out HRy0.out).elemAt 2 (by rw [HLy.out]; omega)
            obtain ⟨vy2, hvy⟩ : ∃ z, z = at0 ys ((2 : Nat) : Int) := ⟨_, rfl⟩
            rw [← hvy] at hy
            have HVy2 := Lib.hid hvy
            have HCy2 := Lib.hid hy
            clear hvy hy
            rw [rounds_succ]
            go_wp2_with (at_make; refine wpList_make_full _ rfl _ _ 23 rfl y1.heap.size 3 i0 (.int .i64 0) 1 Try.underlying23 HI.out.1 HI.out.2.1 HI.out.2.2.1 .i64 .i64 _ _ 4 rfl rfl rfl rfl ?b2 ?b3 ?b4 ?_)
            case b2 => rw [HI.out.2.2.2]; omega
            case b3 => unfold maxLen; omega
            case b4 => simp
            intro W2 hown1 hgr1
            have e8 : (madeCells #[Value.int .i64 0] 4).toList = I64 (List.replicate 4 0) := made_ints 4
            have ho : Own W2 y1.heap.size 3 1 (some ⟨y1.heap.size, 0, none⟩) 4 4 (I64 (List.replicate 4 0)) := by rw [← e8]; exact hown1
            have hb1 : Below y1.heap.size y1 W2 := (Below.refl _ _).grown hgr1 (by simp) (by simp)
            have HS2 := Lib.hid (Bs.mk_list HSt1.out.b hb1 ho)
            clear hown1 hgr1 e8 ho hb1
            go_wp2_with fail
            go_loopw [14] (fun i wr => ∃ (k : Nat) (G : List Gt) (R P : List Int), k ≤ 2 ∧ i = .int .i64 k ∧ rnds (fun h k => put1 h ⟨4, vy2, at0 xs k⟩) GS1 k = (G, R) ∧ P.length = 4 ∧ (P.drop 2).take k = R ∧ Bs y1 wr (w.heap.size + 2) bx G (.slice (some ⟨g2, 0, none⟩) os.length d2) y1.heap.size 4 4 P) (fun i _ => 2 - (intOf i).toNat)
            case atStart => exact ⟨0, _, _, _, Nat.zero_le _, rfl, rfl, by simp, rfl, HS2.out⟩
            case round =>
              obtain ⟨k, G2, R2, P2, hk, rfl, hsp, hpl, htk, hbs⟩ := hrel
              have hGl := rnds_le (f := fun h k => put1 h ⟨4, vy2, at0 xs k⟩) (m := 1) (by intro h k; simp [put1]) GS1 k
              rw [hsp] at hGl
              simp only at hGl
              have HSP2 := Lib.hid hsp
              have HBS2 := Lib.hid hbs
              have HPL2 := Lib.hid hpl
              have HTK2 := Lib.hid htk
              have zr2 := hbs.l.size
              have gtl2 := hbs.ge
              clear hsp hbs hpl htk
              by_cases hlt : k < 2
              · have hk' : (k : Int) ≤ 1 := by omega
                have hk4 : (k : Int) < 4 := by omega
                have hki : (2 : Int) + (k : Int) < 4 := by omega
                have hkz : (0 : Int) ≤ (2 : Int) + (k : Int) := by omega
                have hkn : ((2 : Int) + (k : Int)).toNat = 2 + k := by omega
                have hkw : IntKind.i64.wrap ((2 : Int) + (k : Int)) = (2 : Int) + (k : Int) := wrap_i64_id (by omega) (by omega)
                have HST := Lib.hid (rnds_succ (fun h k => put1 h ⟨4, vy2, at0 xs k⟩) GS1 k HSP2.out)
                have hcx := HRx2.out.elemAt k (by rw [HLx.out]; omega)
                obtain ⟨vx, hvx⟩ : ∃ z, z = at0 xs (k : Int) := ⟨_, rfl⟩
                rw [← hvx] at hcx
                have HVx := Lib.hid hvx
                have HCx := Lib.hid hcx
                have hcx0 := HBS2.out.cell (HFx2.out _ _ rfl) HCx.out
                have hcy0 := HBS2.out.cell (HFy2.out _ _ rfl) HCy2.out
                have nbx : blx ≠ y1.heap.size := by have := (HFx2.out _ _ rfl).1; omega
                have nby : bly ≠ y1.heap.size := by have := (HFy2.out _ _ rfl).1; omega
                obtain ⟨hp0, hf0⟩ := HBS2.out.o.intE (2 + k) (by rw [HPL2.out]; omega)
                clear hvx hcx
                obtain ⟨G9, e9⟩ : ∃ X, X = G2 ++ [⟨4, vy2, vx⟩] := ⟨_, rfl⟩
                have E9 := Lib.hid e9
                clear e9
                have HN : Hid (rnds (fun h k => put1 h ⟨4, vy2, at0 xs k⟩) GS1 (k + 1) = (G9, R2 ++ [(G2.length : Int)])) := by show _ = _; rw [HST.out, E9.out, HVx.out]; simp [put1]
                have HPUT : ∀ W, Bld W (w.heap.size + 2) bx G2 (.slice (some ⟨g2, 0, none⟩) os.length d2) → Calls Try.prog 59 #[.pointer (some ⟨bx, 0, none⟩), .int .i64 4, .int .i64 vy2, .int .i64 vx] W fun e w' => e = .returned (.int .i64 (G2.length : Int)) ∧ Bld w' (w.heap.size + 2) bx G9 (.slice (some ⟨g2, 0, none⟩) os.length d2) ∧ Fr bx W w' ∧ Below (w.heap.size + 2) W w' := fun W h => by
                  have := bgate_any G2 4 vy2 vx (.slice (some ⟨g2, 0, none⟩) os.length d2) (w.heap.size + 2) bx W h (by omega)
                  rw [← E9.out] at this; exact this
                have HPT := Lib.hid HPUT
                clear HPUT
                go_wp2_with fail
                go_region_held3 (fun w' => w'.cell? ⟨blx, offx + k, none⟩ = some (.int .i64 vx) ∧ w'.cell? ⟨bly, offy + 2, none⟩ = some (.int .i64 vy2)) (first | go_keep)
                  ((go_at_call 59; refine (HPT.out _ (HBS2.out.drew).b).mono ?_; rintro e w2 ⟨rfl, hB2, hF2, hL2⟩; have S1 := Lib.hid ((HBS2.out.drew).on hB2 hF2 hL2); have z1 : wr.heap.size ≤ w2.heap.size := hL2.size; have hcx1 := S1.out.cell (HFx2.out _ _ rfl) HCx.out; have hcy1 := S1.out.cell (HFy2.out _ _ rfl) HCy2.out; obtain ⟨hp1, hf1⟩ := S1.out.o.intE (2 + k) (by rw [HPL2.out]; omega); have HST2 := Lib.hid (S1.out.set (2 + k) (G2.length : Int)); have hcx2 := HST2.out.cell (HFx2.out _ _ rfl) HCx.out; have hcy2 := HST2.out.cell (HFy2.out _ _ rfl) HCy2.out; clear hB2 hF2 hL2))
                go_wp2_with fail
                go_roundw
                all_goals first
                  | (show _ < _; first | (simp [intOf]; done) | (simp [intOf]; omega))
                  | exact ⟨k + 1, _, _, _, by omega, by go_num, HN.out, by rw [List.length_set]; exact HPL2.out, fill_succ (by rw [HPL2.out]; omega) HTK2.out, HST2.out⟩
                  | ((repeat apply Exists.intro); exact ⟨⟨k + 1, _, _, _, by omega, by go_num, HN.out, by rw [List.length_set]; exact HPL2.out, fill_succ (by rw [HPL2.out]; omega) HTK2.out, HST2.out⟩, rfl⟩)
              · obtain rfl : k = 2 := by omega
                obtain ⟨wr2, hwr⟩ : ∃ X, X = wr := ⟨_, rfl⟩
                subst hwr
                have hdr : P2.drop 2 = R2 := by
                  have h := HTK2.out
                  rwa [List.take_of_length_le (by rw [List.length_drop, HPL2.out]; omega)] at h
                have hRow : rowP (at0 ys ((1 : Nat) + 1 : Nat)) xs 2 GS1 = (G2, P2.drop 2) := by rw [hdr, ← HSP2.out, HVy2.out]; rfl
                have HR2 := Lib.hid hRow
                have hown := HSt1.out.o.later (HBS2.out.r.kp HSt1.out.f)
                have HRD2 := Lib.hid hown.rd
                have hcap := own_cap' hown
                have HFR2 := Lib.hid (HBS2.out.r.frn HSt1.out.f)
                have hG2 : G2.length ≤ GS1.length + 2 := by have := rnds_le (f := fun h k => put1 h ⟨4, vy2, at0 xs k⟩) (m := 1) (by intro h k; simp [put1]) GS1 2; rw [HSP2.out] at this; simp only at this; omega
                clear hdr hRow hown
                go_wp2_with fail
                refine (bsum2 G2 0 (.slice (some ⟨g2, 0, none⟩) os.length d2) (w.heap.size + 2) bx _ HBS2.out.b (by omega) Tm1 (some ⟨gm1, 0, none⟩) cm1 HLT1.out HRD2.out (fun b off e => by cases e; exact HFR2.out) P2 (some ⟨y1.heap.size, 0, none⟩) 4 HPL2.out HBS2.out.o.rd (fun b off e => by cases e; exact HBS2.out.f) hcap).mono ?_
                rintro e y2 ⟨gm2, cm2, rfl, hs⟩
                obtain ⟨GS2, TS2, hsum⟩ : ∃ a b, sumP (Tm1.drop 2) (P2.drop 2) 0 1 G2 = (a, b) := ⟨_, _, rfl⟩
                rw [hsum] at hs
                have hlen := sumP_len (Tm1.drop 2) (P2.drop 2) 0 1 G2
                rw [hsum] at hlen
                simp only at hlen
                have hSG : GS2.length ≤ G2.length + 20 := by omega
                obtain ⟨Tm2, hTm⟩ : ∃ X, X = Tm1.take 2 ++ TS2 := ⟨_, rfl⟩
                simp only [← hTm] at hs
                have hM : mulR xs ys gs 2 = (GS2, Tm2) := by rw [mulR_succ xs ys gs 1 HM1.out HR2.out]; rw [show sumP (Tm1.drop (1 + 1)) (P2.drop 2) 0 (2 - 1) G2 = (GS2, TS2) from hsum, hTm]
                have HM2 := Lib.hid hM
                have HLT2 : Hid (Tm2.length = 4) := by show _ = _; rw [hTm, List.length_append, List.length_take, HLT1.out, hlen.2]; rfl
                have HSt2 := Lib.hid ((HSt1.out.then HBS2.out).then hs)
                clear hsum hlen hs hTm hM hcap HBS2 HSP2 HRD2 HFR2 hk hlt HTK2
                go_wp2_with fail
                have HRx3 := Lib.hid (HSt2.out.r.rd HFx0.out HRx0.out)
                have HFx3 := Lib.hid (HSt2.out.r.fra HFx0.out)
                have HFy3 := Lib.hid (HSt2.out.r.fra HFy0.out)
                have hy := (HSt2.out.r.rd HFy0.out HRy0.out).elemAt 3 (by rw [HLy.out]; omega)
                obtain ⟨vy3, hvy⟩ : ∃ z, z = at0 ys ((3 : Nat) : Int) := ⟨_, rfl⟩
                rw [← hvy] at hy
                have HVy3 := Lib.hid hvy
                have HCy3 := Lib.hid hy
                clear hvy hy
                rw [rounds_succ]
                go_wp2_with (at_make; refine wpList_make_full _ rfl _ _ 23 rfl y2.heap.size 3 i0 (.int .i64 0) 1 Try.underlying23 HI.out.1 HI.out.2.1 HI.out.2.2.1 .i64 .i64 _ _ 4 rfl rfl rfl rfl ?b2 ?b3 ?b4 ?_)
                case b2 => rw [HI.out.2.2.2]; omega
                case b3 => unfold maxLen; omega
                case b4 => simp
                intro W3 hown1 hgr1
                have e8 : (madeCells #[Value.int .i64 0] 4).toList = I64 (List.replicate 4 0) := made_ints 4
                have ho : Own W3 y2.heap.size 3 1 (some ⟨y2.heap.size, 0, none⟩) 4 4 (I64 (List.replicate 4 0)) := by rw [← e8]; exact hown1
                have hb1 : Below y2.heap.size y2 W3 := (Below.refl _ _).grown hgr1 (by simp) (by simp)
                have HS3 := Lib.hid (Bs.mk_list HSt2.out.b hb1 ho)
                clear hown1 hgr1 e8 ho hb1
                go_wp2_with fail
                go_loopw [14] (fun i wr => ∃ (k : Nat) (G : List Gt) (R P : List Int), k ≤ 1 ∧ i = .int .i64 k ∧ rnds (fun h k => put1 h ⟨4, vy3, at0 xs k⟩) GS2 k = (G, R) ∧ P.length = 4 ∧ (P.drop 3).take k = R ∧ Bs y2 wr (w.heap.size + 2) bx G (.slice (some ⟨g2, 0, none⟩) os.length d2) y2.heap.size 4 4 P) (fun i _ => 1 - (intOf i).toNat)
                case atStart => exact ⟨0, _, _, _, Nat.zero_le _, rfl, rfl, by simp, rfl, HS3.out⟩
                case round =>
                  obtain ⟨k, G3, R3, P3, hk, rfl, hsp, hpl, htk, hbs⟩ := hrel
                  have hGl := rnds_le (f := fun h k => put1 h ⟨4, vy3, at0 xs k⟩) (m := 1) (by intro h k; simp [put1]) GS2 k
                  rw [hsp] at hGl
                  simp only at hGl
                  have HSP3 := Lib.hid hsp
                  have HBS3 := Lib.hid hbs
                  have HPL3 := Lib.hid hpl
                  have HTK3 := Lib.hid htk
                  have zr3 := hbs.l.size
                  have gtl3 := hbs.ge
                  clear hsp hbs hpl htk
                  by_cases hlt : k < 1
                  · obtain rfl : k = 0 := by omega
                    have hw3 : IntKind.i64.wrap 3 = 3 := rfl
                    have HST := Lib.hid (rnds_succ (fun h k => put1 h ⟨4, vy3, at0 xs k⟩) GS2 0 HSP3.out)
                    have hcx : y2.cell? ⟨blx, offx, none⟩ = _ := HRx3.out.elemAt 0 (by rw [HLx.out]; omega)
                    obtain ⟨vx, hvx⟩ : ∃ z, z = at0 xs ((0 : Nat) : Int) := ⟨_, rfl⟩
                    rw [← hvx] at hcx
                    have HVx := Lib.hid hvx
                    have HCx := Lib.hid hcx
                    have hcx0 := HBS3.out.cell (HFx3.out _ _ rfl) HCx.out
                    have hcy0 := HBS3.out.cell (HFy3.out _ _ rfl) HCy3.out
                    have nbx : blx ≠ y2.heap.size := by have := (HFx3.out _ _ rfl).1; omega
                    have nby : bly ≠ y2.heap.size := by have := (HFy3.out _ _ rfl).1; omega
                    obtain ⟨hp0, hf0⟩ := HBS3.out.o.intE (3) (by rw [HPL3.out]; omega)
                    clear hvx hcx
                    obtain ⟨G9, e9⟩ : ∃ X, X = G3 ++ [⟨4, vy3, vx⟩] := ⟨_, rfl⟩
                    have E9 := Lib.hid e9
                    clear e9
                    have HN : Hid (rnds (fun h k => put1 h ⟨4, vy3, at0 xs k⟩) GS2 (0 + 1) = (G9, R3 ++ [(G3.length : Int)])) := by show _ = _; rw [HST.out, E9.out, HVx.out]; simp [put1]
                    have HPUT : ∀ W, Bld W (w.heap.size + 2) bx G3 (.slice (some ⟨g2, 0, none⟩) os.length d2) → Calls Try.prog 59 #[.pointer (some ⟨bx, 0, none⟩), .int .i64 4, .int .i64 vy3, .int .i64 vx] W fun e w' => e = .returned (.int .i64 (G3.length : Int)) ∧ Bld w' (w.heap.size + 2) bx G9 (.slice (some ⟨g2, 0, none⟩) os.length d2) ∧ Fr bx W w' ∧ Below (w.heap.size + 2) W w' := fun W h => by
                      have := bgate_any G3 4 vy3 vx (.slice (some ⟨g2, 0, none⟩) os.length d2) (w.heap.size + 2) bx W h (by omega)
                      rw [← E9.out] at this; exact this
                    have HPT := Lib.hid HPUT
                    clear HPUT
                    go_wp2_with fail
                    go_region_held3 (fun w' => w'.cell? ⟨blx, offx, none⟩ = some (.int .i64 vx) ∧ w'.cell? ⟨bly, offy + 3, none⟩ = some (.int .i64 vy3)) (first | go_keep)
                      ((go_at_call 59; refine (HPT.out _ (HBS3.out.drew).b).mono ?_; rintro e w2 ⟨rfl, hB2, hF2, hL2⟩; have S1 := Lib.hid ((HBS3.out.drew).on hB2 hF2 hL2); have z1 : wr.heap.size ≤ w2.heap.size := hL2.size; have hcx1 := S1.out.cell (HFx3.out _ _ rfl) HCx.out; have hcy1 := S1.out.cell (HFy3.out _ _ rfl) HCy3.out; obtain ⟨hp1, hf1⟩ := S1.out.o.intE (3) (by rw [HPL3.out]; omega); have HST2 := Lib.hid (S1.out.set (3) (G3.length : Int)); have hcx2 := HST2.out.cell (HFx3.out _ _ rfl) HCx.out; have hcy2 := HST2.out.cell (HFy3.out _ _ rfl) HCy3.out; clear hB2 hF2 hL2))
                    go_wp2_with fail
                    go_roundw
                    all_goals first
                      | (show _ < _; first | (simp [intOf]; done) | (simp [intOf]; omega))
                      | exact ⟨0 + 1, _, _, _, by omega, by go_num, HN.out, by rw [List.length_set]; exact HPL3.out, fill_succ (by rw [HPL3.out]; omega) HTK3.out, HST2.out⟩
                      | ((repeat apply Exists.intro); exact ⟨⟨0 + 1, _, _, _, by omega, by go_num, HN.out, by rw [List.length_set]; exact HPL3.out, fill_succ (by rw [HPL3.out]; omega) HTK3.out, HST2.out⟩, rfl⟩)
                  · obtain rfl : k = 1 := by omega
                    obtain ⟨wr3, hwr⟩ : ∃ X, X = wr := ⟨_, rfl⟩
                    subst hwr
                    have hdr : P3.drop 3 = R3 := by
                      have h := HTK3.out
                      rwa [List.take_of_length_le (by rw [List.length_drop, HPL3.out]; omega)] at h
                    have hRow : rowP (at0 ys ((2 : Nat) + 1 : Nat)) xs 1 GS2 = (G3, P3.drop 3) := by rw [hdr, ← HSP3.out, HVy3.out]; rfl
                    have HR3 := Lib.hid hRow
                    have hown := HSt2.out.o.later (HBS3.out.r.kp HSt2.out.f)
                    have HRD3 := Lib.hid hown.rd
                    have hcap := own_cap' hown
                    have HFR3 := Lib.hid (HBS3.out.r.frn HSt2.out.f)
                    have hG3 : G3.length ≤ GS2.length + 1 := by have := rnds_le (f := fun h k => put1 h ⟨4, vy3, at0 xs k⟩) (m := 1) (by intro h k; simp [put1]) GS2 1; rw [HSP3.out] at this; simp only at this; omega
                    clear hdr hRow hown
                    go_wp2_with fail
                    refine (bsum3 G3 0 (.slice (some ⟨g2, 0, none⟩) os.length d2) (w.heap.size + 2) bx _ HBS3.out.b (by omega) Tm2 (some ⟨gm2, 0, none⟩) cm2 HLT2.out HRD3.out (fun b off e => by cases e; exact HFR3.out) P3 (some ⟨y2.heap.size, 0, none⟩) 4 HPL3.out HBS3.out.o.rd (fun b off e => by cases e; exact HBS3.out.f) hcap).mono ?_
                    rintro e y3 ⟨gm3, cm3, rfl, hs⟩
                    obtain ⟨GS3, TS3, hsum⟩ : ∃ a b, sumP (Tm2.drop 3) (P3.drop 3) 0 0 G3 = (a, b) := ⟨_, _, rfl⟩
                    rw [hsum] at hs
                    have hlen := sumP_len (Tm2.drop 3) (P3.drop 3) 0 0 G3
                    rw [hsum] at hlen
                    simp only at hlen
                    have hSG : GS3.length ≤ G3.length + 20 := by omega
                    obtain ⟨Tm3, hTm⟩ : ∃ X, X = Tm2.take 3 ++ TS3 := ⟨_, rfl⟩
                    simp only [← hTm] at hs
                    have hM : mulR xs ys gs 3 = (GS3, Tm3) := by rw [mulR_succ xs ys gs 2 HM2.out HR3.out]; rw [show sumP (Tm2.drop (2 + 1)) (P3.drop 3) 0 (2 - 2) G3 = (GS3, TS3) from hsum, hTm]
                    have HM3 := Lib.hid hM
                    have HLT3 : Hid (Tm3.length = 4) := by show _ = _; rw [hTm, List.length_append, List.length_take, HLT2.out, hlen.2]; rfl
                    have HSt3 := Lib.hid ((HSt2.out.then HBS3.out).then hs)
                    clear hsum hlen hs hTm hM hcap HBS3 HSP3 HRD3 HFR3 hk hlt HTK3
                    go_wp2_with fail
                    rw [rounds_succ]
                    have hp : mulP xs ys gs = (GS3, Tm3) := HM3.out
                    rw [hp] at HE1 HE2
                    clear hp
                    have HWB10 := Lib.hid (HWB9.out.on HSt3.out.b HSt3.out.r HSt3.out.l)
                    have k10_0 := Fr.cell HSt3.out.r (HWB9.out.b.frn_lo (by omega)) k9_0
                    have k10_1 := Fr.cell HSt3.out.r (HWB9.out.b.frn_lo (by omega)) k9_1
                    have k10_2 := Fr.cell HSt3.out.r (HWB9.out.b.frn_lo (by omega)) k9_2
                    have k10_3 := Fr.cell HSt3.out.r (HWB9.out.b.frn_lo (by omega)) k9_3
                    have f10_0 := Fr.free HSt3.out.r (HWB9.out.b.frn_lo (by omega)) f9_0
                    have f10_1 := Fr.free HSt3.out.r (HWB9.out.b.frn_lo (by omega)) f9_1
                    clear k9_0 k9_1 k9_2 k9_3 f9_0 f9_1
                    have HS10 := HSt3
                    obtain ⟨adR, capR, hcR, _, _⟩ := HWB10.out.b.row
                    have hc1R := HWB10.out.b.snd
                    have hlR := HWB10.out.l
                    go_wp2_with fail
                    refine bodyPost_ret (v := .tuple #[.agg #[.slice adR (GS3).length capR, .slice (some ⟨g2, 0, none⟩) os.length d2], .slice (some ⟨gm3, 0, none⟩) 4 cm3]) (by simp [results, Try.results34, go_sem, *]) rfl ?_
                    rw [HE1.out, HE2.out]
                    exact HWB10.out.postW hcR (by have := HS10.out.o.len; simpa using this.symm) (by have h1 := HS10.out.ge; have h2 := HWB9.out.b.le; exact HS10.out.o.later (by (repeat (first | with_reducible exact Kp.refl _ _ | (with_reducible refine Kp.rng ?_ (by assumption) ?_) | (with_reducible refine Kp.below ?_ (by assumption)) | (with_reducible refine Kp.grown ?_ (by assumption) ?_) | (with_reducible refine Kp.alloc ?_ _) | (with_reducible refine Kp.drew ?_) | (with_reducible refine Kp.drewN ?_ _) | (with_reducible refine Kp.setCell ?_ _ ?_))) <;> (first | omega | (simp; done) | (simp; omega)))) (fun y e => by obtain rfl := Option.some.inj e; exact ⟨HS10.out.f.2.2, by have h1 := HS10.out.ge; have h2 := HWB9.out.f.1; show gm3 ≠ g2; omega⟩) (by have := HWB9.out.b.le; omega) (fun b hb => (by (repeat (first | with_reducible exact Kp.refl _ _ | (with_reducible refine Kp.rng ?_ (by assumption) ?_) | (with_reducible refine Kp.below ?_ (by assumption)) | (with_reducible refine Kp.grown ?_ (by assumption) ?_) | (with_reducible refine Kp.alloc ?_ _) | (with_reducible refine Kp.drew ?_) | (with_reducible refine Kp.drewN ?_ _) | (with_reducible refine Kp.setCell ?_ _ ?_))) <;> (first | omega | (simp; done) | (simp; omega)))) (by (repeat (first | with_reducible exact Below.refl _ _ | (with_reducible refine bel_next ?_ ?_ (by assumption)) | (with_reducible refine Below.alloc ?_ ?_ _) | (with_reducible refine Below.drew ?_) | (with_reducible refine below_drewN ?_ _) | (with_reducible refine Below.setCell ?_ ?_ _))) <;> (first | omega | (simp; done) | (simp; omega)))
end Go.Proofs.Ytfcijloiebnloaa

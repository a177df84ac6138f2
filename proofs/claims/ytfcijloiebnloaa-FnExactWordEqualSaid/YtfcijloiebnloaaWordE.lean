/- Equality, the program. -/
import Derived.Test.YtfcijloiebnloaaWordS
import Derived.StillTailTactics
import Derived.Deep.RegionHeld3
import Derived.Deep.RegionLaw
namespace Go.Proofs.Ytfcijloiebnloaa
open Go.RowKit
set_option linter.unusedVariables false
set_option linter.unusedSimpArgs false

theorem own_cap {w : World} {lo e size g n cap : Nat} {cs : List Value} (h : Own w lo e size (some ⟨g, 0, none⟩) n cap cs) : n ≤ cap := by
  rcases h.2 with ⟨hv, _⟩ | ⟨g', cap', cur, hv, _, _, hn, _⟩
  · cases hv
  · cases hv; exact hn

set_option maxRecDepth 20000 in
set_option maxHeartbeats 8000000 in
theorem iWordEqual_any (gs : List Gt) (os : List Int) (a1 a2 : Option Addr) (c1 c2 : Nat) (w : World) (hm : gs.length ≤ 1048576) (hm2 : os.length ≤ 1048576) (hr : RdC w a1 (gtCells gs)) (hr2 : RdC w a2 (I64 os))  (xs : List Int) (nx : Nat) (ax : Option Addr) (cx : Nat) (hlx : xs.length = nx) (hmx : nx ≤ 1048576) (hrx : RdC w ax (I64 xs)) (ys : List Int) (ny : Nat) (ay : Option Addr) (cy : Nat) (hly : ys.length = ny) (hmy : ny ≤ 1048576) (hry : RdC w ay (I64 ys))  :
    Calls Try.prog 26 #[.agg #[.slice a1 gs.length c1, .slice a2 os.length c2], .slice ax nx cx, .slice ay ny cy] w fun e w' => PostI w w' e (wP (askB gs os xs ys) (equalP xs ys gs) gs (-1)).1 os (wP (askB gs os xs ys) (equalP xs ys gs) gs (-1)).2 := by
  have HR := Lib.hid hr
  have HR2 := Lib.hid hr2
  have HRx := Lib.hid hrx
  have HRy := Lib.hid hry
  clear hr hr2 hrx hry
  have nH : w.heap.size ≠ w.heap.size + 1 := by omega
  obtain ⟨PG, hPG⟩ : ∃ z, z = (wP (askB gs os xs ys) (equalP xs ys gs) gs (-1)).1 := ⟨_, rfl⟩
  obtain ⟨PW, hPW⟩ : ∃ z, z = (wP (askB gs os xs ys) (equalP xs ys gs) gs (-1)).2 := ⟨_, rfl⟩
  rw [← hPG, ← hPW]
  have HPG := Lib.hid hPG
  have HPW := Lib.hid hPW
  clear hPG hPW
  go_enter Try.func26, Try.ntmps26
  go_wp2_with fail
  refine (copyCircuit_any gs os _ _ _ _ _ hm hm2 (HR.out.below (by (repeat (first | with_reducible exact Below.refl _ _ | (with_reducible refine bel_next ?_ ?_ (by assumption)) | (with_reducible refine Below.alloc ?_ ?_ _) | (with_reducible refine Below.drew ?_) | (with_reducible refine below_drewN ?_ _) | (with_reducible refine Below.setCell ?_ ?_ _))) <;> (first | omega | (simp; done) | (simp; omega)))) (HR2.out.below (by (repeat (first | with_reducible exact Below.refl _ _ | (with_reducible refine bel_next ?_ ?_ (by assumption)) | (with_reducible refine Below.alloc ?_ ?_ _) | (with_reducible refine Below.drew ?_) | (with_reducible refine below_drewN ?_ _) | (with_reducible refine Below.setCell ?_ ?_ _))) <;> (first | omega | (simp; done) | (simp; omega))))).mono ?_
  rintro e w1 ⟨g1, d1, g2, d2, rfl, ho1, ho2, hne, hb1⟩
  have z1 := hb1.size
  (try simp at z1)
  have y1a : w.heap.size < w1.heap.size := (by omega)
  have y1b : w.heap.size + 1 < w1.heap.size := (by omega)
  have k1_0 := bel_keeps hb1 (b := w.heap.size) (o := 0) (v := .slice a1 gs.length c1) (by first | (go_simp; done) | assumption)
  have k1_1 := bel_keeps hb1 (b := w.heap.size) (o := 1) (v := .slice a2 os.length c2) (by first | (go_simp; done) | assumption)
  have k1_2 := bel_keeps hb1 (b := w.heap.size + 1) (o := 0) (v := .slice none 0 0) (by first | (go_simp; done) | assumption)
  have k1_3 := bel_keeps hb1 (b := w.heap.size + 1) (o := 1) (v := .slice none 0 0) (by first | (go_simp; done) | assumption)
  have f1_0 := bel_free hb1 (b := w.heap.size + 1) (o := 0) (by first | omega | (simp; done) | (simp; omega)) (by first | (go_simp; done) | assumption)
  have f1_1 := bel_free hb1 (b := w.heap.size + 1) (o := 1) (by first | omega | (simp; done) | (simp; omega)) (by first | (go_simp; done) | assumption)
  have hbw1 : Below w.heap.size w w1 := (by (repeat (first | with_reducible exact Below.refl _ _ | (with_reducible refine bel_next ?_ ?_ (by assumption)) | (with_reducible refine Below.alloc ?_ ?_ _) | (with_reducible refine Below.drew ?_) | (with_reducible refine below_drewN ?_ _) | (with_reducible refine Below.setCell ?_ ?_ _))) <;> (first | omega | (simp; done) | (simp; omega)))
  go_wp2_with fail
  obtain ⟨W, hW⟩ : ∃ W, W = w1.alloc (.cells #[.slice (some ⟨g1, 0, none⟩) gs.length d1, .slice (some ⟨g2, 0, none⟩) os.length d2] 72) := ⟨_, rfl⟩
  obtain ⟨bx, hbx⟩ : ∃ b, b = w1.heap.size := ⟨_, rfl⟩
  rw [← hW, ← hbx]
  have hWs : W.heap.size = bx + 1 := by rw [hW, hbx]; simp
  rw [← hWs]
  clear hWs
  have hbW : Below w1.heap.size w1 W := by rw [hW]; exact (Below.refl _ _).alloc (Nat.le_refl _) _
  have HWB := Lib.hid (WB.start (w0 := w) (w := W) (bx := bx) (ho1.lo (by simp)) (ho2.lo (by simp)) hne (hbw1.trans (hbW.mono (by omega))) hbW hbx (by rw [hW]; simp) (by rw [hW, hbx]; go_simp) (by rw [hW, hbx]; go_simp) (by rw [hW, hbx]; go_simp) (by rw [hW, hbx]; go_simp))
  have hbb : w.heap.size + 2 ≤ bx := by omega
  have zW := hbW.size
  (try simp at zW)
  have yWa : w.heap.size < W.heap.size := (by omega)
  have yWb : w.heap.size + 1 < W.heap.size := (by omega)
  have kW_0 := bel_keeps hbW (b := w.heap.size) (o := 0) (v := .slice a1 gs.length c1) (by first | (go_simp; done) | assumption)
  have kW_1 := bel_keeps hbW (b := w.heap.size) (o := 1) (v := .slice a2 os.length c2) (by first | (go_simp; done) | assumption)
  have kW_2 := bel_keeps hbW (b := w.heap.size + 1) (o := 0) (v := .slice none 0 0) (by first | (go_simp; done) | assumption)
  have kW_3 := bel_keeps hbW (b := w.heap.size + 1) (o := 1) (v := .slice none 0 0) (by first | (go_simp; done) | assumption)
  have fW_0 := bel_free hbW (b := w.heap.size + 1) (o := 0) (by first | omega | (simp; done) | (simp; omega)) (by first | (go_simp; done) | assumption)
  have fW_1 := bel_free hbW (b := w.heap.size + 1) (o := 1) (by first | omega | (simp; done) | (simp; omega)) (by first | (go_simp; done) | assumption)
  clear k1_0 k1_1 k1_2 k1_3 f1_0 f1_1
  clear hW hbx hbW ho1 ho2 hne hb1 hbw1
  have hlW := HWB.out.l
  refine (isWordOf2_any gs os _ _ _ _ _ hm hm2 (HR.out.below (hlW.trans (((Below.refl _ _).alloc (Nat.le_refl _) _).mono (by omega)))) (HR2.out.below (hlW.trans (((Below.refl _ _).alloc (Nat.le_refl _) _).mono (by omega)))) xs nx ax cx hlx hmx (HRx.out.below (hlW.trans (((Below.refl _ _).alloc (Nat.le_refl _) _).mono (by omega)))) ys ny ay cy hly hmy (HRy.out.below (hlW.trans (((Below.refl _ _).alloc (Nat.le_refl _) _).mono (by omega)))) W.heap.size 2 (by go_simp) (by go_simp)).mono ?_
  rintro e w9 ⟨rfl, hb0⟩
  have hb9 : Below W.heap.size W w9 := ((Below.refl _ _).alloc (Nat.le_refl _) _).trans (hb0.mono (by simp))
  clear hb0
  have HWB9 := Lib.hid (HWB.out.below hb9)
  have z9 := hb9.size
  (try simp at z9)
  have y9a : w.heap.size < w9.heap.size := (by omega)
  have y9b : w.heap.size + 1 < w9.heap.size := (by omega)
  have k9_0 := bel_keeps hb9 (b := w.heap.size) (o := 0) (v := .slice a1 gs.length c1) (by first | (go_simp; done) | assumption)
  have k9_1 := bel_keeps hb9 (b := w.heap.size) (o := 1) (v := .slice a2 os.length c2) (by first | (go_simp; done) | assumption)
  have k9_2 := bel_keeps hb9 (b := w.heap.size + 1) (o := 0) (v := .slice none 0 0) (by first | (go_simp; done) | assumption)
  have k9_3 := bel_keeps hb9 (b := w.heap.size + 1) (o := 1) (v := .slice none 0 0) (by first | (go_simp; done) | assumption)
  have f9_0 := bel_free hb9 (b := w.heap.size + 1) (o := 0) (by first | omega | (simp; done) | (simp; omega)) (by first | (go_simp; done) | assumption)
  have f9_1 := bel_free hb9 (b := w.heap.size + 1) (o := 1) (by first | omega | (simp; done) | (simp; omega)) (by first | (go_simp; done) | assumption)
  clear kW_0 kW_1 kW_2 kW_3 fW_0 fW_1
  clear hb9
  cases hq : askB gs os xs ys
  · have e1 : PG = gs := by rw [HPG.out, show (askB gs os xs ys) = false from hq]; rfl
    have e2 : PW = (-1) := by rw [HPW.out, show (askB gs os xs ys) = false from hq]; rfl
    have HE1 := Lib.hid e1
    have HE2 := Lib.hid e2
    clear e1 e2
    obtain ⟨adR, capR, hcR, _, _⟩ := HWB9.out.b.row
    have hc1R := HWB9.out.b.snd
    have hlR := HWB9.out.l
    go_wp2_with fail
    refine bodyPost_ret (v := .tuple #[.agg #[.slice adR gs.length capR, .slice (some ⟨g2, 0, none⟩) os.length d2], .int .i64 (-1)]) (by simp [results, Try.results26, go_sem, *]) rfl ?_
    rw [HE1.out, HE2.out]
    exact HWB9.out.postI hcR (fun b hb => (by (repeat (first | with_reducible exact Kp.refl _ _ | (with_reducible refine Kp.rng ?_ (by assumption) ?_) | (with_reducible refine Kp.below ?_ (by assumption)) | (with_reducible refine Kp.grown ?_ (by assumption) ?_) | (with_reducible refine Kp.alloc ?_ _) | (with_reducible refine Kp.drew ?_) | (with_reducible refine Kp.drewN ?_ _) | (with_reducible refine Kp.setCell ?_ _ ?_))) <;> (first | omega | (simp; done) | (simp; omega)))) (by (repeat (first | with_reducible exact Below.refl _ _ | (with_reducible refine bel_next ?_ ?_ (by assumption)) | (with_reducible refine Below.alloc ?_ ?_ _) | (with_reducible refine Below.drew ?_) | (with_reducible refine below_drewN ?_ _) | (with_reducible refine Below.setCell ?_ ?_ _))) <;> (first | omega | (simp; done) | (simp; omega)))
  · have e1 : PG = (equalP xs ys gs).1 := by rw [HPG.out, show (askB gs os xs ys) = true from hq]; rfl
    have e2 : PW = (equalP xs ys gs).2 := by rw [HPW.out, show (askB gs os xs ys) = true from hq]; rfl
    have HE1 := Lib.hid e1
    have HE2 := Lib.hid e2
    clear e1 e2
    obtain ⟨hx4, hy4, h59⟩ := askB_len hq
    rw [hlx] at hx4
    rw [hly] at hy4
    subst hx4; subst hy4
    have HB := Lib.hid HWB9.out.b
    have hBl := HWB9.out.b.le
    have HN2 := Lib.hid HWB9.out.f
    have HFx := Lib.hid (HWB9.out.fra HRx.out (by omega))
    have hrox := HRx.out.below HWB9.out.l
    clear HRx
    have HRx := Lib.hid hrox
    have HLx := Lib.hid hlx
    clear hrox hlx
    have HFy := Lib.hid (HWB9.out.fra HRy.out (by omega))
    have hroy := HRy.out.below HWB9.out.l
    clear HRy
    have HRy := Lib.hid hroy
    have HLy := Lib.hid hly
    clear hroy hly
    obtain ⟨W9, hW9⟩ : ∃ X, X = w9.alloc (.cells #[] 3) := ⟨_, rfl⟩
    have HS0 := Lib.hid (show Bs w9 W9 (w.heap.size + 2) bx gs (.slice (some ⟨g2, 0, none⟩) os.length d2) w9.heap.size 0 0 [] by rw [hW9]; exact Bs.start HWB9.out.b)
    have hBl := HWB9.out.b.le
    go_wp2_with fail
    rw [← hW9]
    clear hW9
    go_loopw [9, 31] (fun u i wr => ∃ (k ct gt : Nat) (G : List Gt) (T : List Int), k ≤ 4 ∧ i = .int .i64 k ∧ u = .slice (some ⟨gt, 0, none⟩) k ct ∧ rnds (fun h k => (h ++ [⟨3, at0 xs k, at0 ys k⟩, ⟨5, h.length, 0⟩], (h.length : Int) + 1)) gs k = (G, T) ∧ Bs w9 wr (w.heap.size + 2) bx G (.slice (some ⟨g2, 0, none⟩) os.length d2) gt k ct T) (fun _ i _ => 4 - (intOf i).toNat)
    case atStart => exact ⟨0, 0, _, _, _, Nat.zero_le _, rfl, rfl, rfl, HS0.out⟩
    case round =>
      obtain ⟨k, ct, gt, G, T, hk, rfl, rfl, hsp, hbs⟩ := hrel
      have hGl := rnds_le (f := fun h k => (h ++ [⟨3, at0 xs k, at0 ys k⟩, ⟨5, h.length, 0⟩], (h.length : Int) + 1)) (m := 2) (by intro h k; simp [put1]) gs k
      rw [hsp] at hGl
      simp only at hGl
      have HSP := Lib.hid hsp
      have HBS := Lib.hid hbs
      have zr := hbs.l.size
      have gtl := hbs.ge
      clear hsp hbs
      by_cases hlt : k < 4
      · have hk' : (k : Int) < 4 := by omega
        have HST := Lib.hid (rnds_succ (fun h k => (h ++ [⟨3, at0 xs k, at0 ys k⟩, ⟨5, h.length, 0⟩], (h.length : Int) + 1)) gs k HSP.out)
        obtain ⟨blx, offx, rfl, hbx, hcx⟩ := HRx.out.elem k (by rw [HLx.out]; exact hlt)
        obtain ⟨vx, hvx⟩ : ∃ z, z = at0 xs (k : Int) := ⟨_, rfl⟩
        rw [← hvx] at hcx
        have HVx := Lib.hid hvx
        have HCx := Lib.hid hcx
        have hcx0 := HBS.out.cell (HFx.out _ _ rfl) HCx.out
        clear hvx hcx
        obtain ⟨bly, offy, rfl, hby, hcy⟩ := HRy.out.elem k (by rw [HLy.out]; exact hlt)
        obtain ⟨vy, hvy⟩ : ∃ z, z = at0 ys (k : Int) := ⟨_, rfl⟩
        rw [← hvy] at hcy
        have HVy := Lib.hid hvy
        have HCy := Lib.hid hcy
        have hcy0 := HBS.out.cell (HFy.out _ _ rfl) HCy.out
        clear hvy hcy
        obtain ⟨G1, e1⟩ : ∃ X, X = G ++ [⟨3, vx, vy⟩] := ⟨_, rfl⟩
        have E1 := Lib.hid e1
        have L1 := Lib.hid (show G1.length = G.length + 1 by rw [e1]; simp)
        clear e1
        have HPUT : ∀ W, Bld W (w.heap.size + 2) bx G (.slice (some ⟨g2, 0, none⟩) os.length d2) → Calls Try.prog 59 #[.pointer (some ⟨bx, 0, none⟩), .int .i64 3, .int .i64 vx, .int .i64 vy] W fun e w' => e = .returned (.int .i64 (G.length : Int)) ∧ Bld w' (w.heap.size + 2) bx G1 (.slice (some ⟨g2, 0, none⟩) os.length d2) ∧ Fr bx W w' ∧ Below (w.heap.size + 2) W w' := fun W h => by
          have := bgate_any G 3 vx vy (.slice (some ⟨g2, 0, none⟩) os.length d2) (w.heap.size + 2) bx W h (by omega)
          rw [← E1.out] at this; exact this
        have HPT1 := Lib.hid HPUT
        clear HPUT
        obtain ⟨G2, e2⟩ : ∃ X, X = G1 ++ [⟨5, (G.length : Int), 0⟩] := ⟨_, rfl⟩
        have E2 := Lib.hid e2
        have L2 := Lib.hid (show G2.length = G.length + 2 by rw [e2]; simp [L1.out])
        clear e2
        have HPUT : ∀ W, Bld W (w.heap.size + 2) bx G1 (.slice (some ⟨g2, 0, none⟩) os.length d2) → Calls Try.prog 59 #[.pointer (some ⟨bx, 0, none⟩), .int .i64 5, .int .i64 (G.length : Int), .int .i64 0] W fun e w' => e = .returned (.int .i64 ((G.length : Int) + 1)) ∧ Bld w' (w.heap.size + 2) bx G2 (.slice (some ⟨g2, 0, none⟩) os.length d2) ∧ Fr bx W w' ∧ Below (w.heap.size + 2) W w' := fun W h => by
          have := bgate_any G1 5 (G.length : Int) 0 (.slice (some ⟨g2, 0, none⟩) os.length d2) (w.heap.size + 2) bx W h (by have := L1.out; omega)
          rw [← E2.out, show (G1.length : Int) = (G.length : Int) + 1 by have := L1.out; omega] at this; exact this
        have HPT2 := Lib.hid HPUT
        clear HPUT
        have HN : Hid (rnds (fun h k => (h ++ [⟨3, at0 xs k, at0 ys k⟩, ⟨5, h.length, 0⟩], (h.length : Int) + 1)) gs (k + 1) = (G2, T ++ [((G.length : Int) + 1)])) := by show _ = _; rw [HST.out, E2.out, E1.out, HVx.out, HVy.out]; simp [put1]
        go_wp2_with fail
        go_region_held3 (fun w' => w'.cell? ⟨blx, offx + k, none⟩ = some (.int .i64 vx) ∧ w'.cell? ⟨bly, offy + k, none⟩ = some (.int .i64 vy)) (first | go_keep) (first | (have _hq := S1.out; clear _hq; go_at_call 59; refine (HPT2.out _ S1.out.b).mono ?_; rintro e w3 ⟨rfl, hB3, hF3, hL3⟩; have S2 := Lib.hid (S1.out.on hB3 hF3 hL3); have z2 : w2.heap.size ≤ w3.heap.size := hL3.size; have hcx2 := S2.out.cell (HFx.out _ _ rfl) HCx.out; have hcy2 := S2.out.cell (HFy.out _ _ rfl) HCy.out; clear hB3 hF3 hL3) | (go_at_call 59; refine (HPT1.out _ (HBS.out.drew).b).mono ?_; rintro e w2 ⟨rfl, hB2, hF2, hL2⟩; have S1 := Lib.hid ((HBS.out.drew).on hB2 hF2 hL2); have z1 : wr.heap.size ≤ w2.heap.size := hL2.size; have hcx1 := S1.out.cell (HFx.out _ _ rfl) HCx.out; have hcy1 := S1.out.cell (HFy.out _ _ rfl) HCy.out; clear hB2 hF2 hL2) | (refine step_push _ rfl (.tmp 34) (.tmp 47) rfl w9.heap.size gt k ct T ((G.length : Int) + 1) w3.heap.size 1 (by rfl) (by rfl) (S2.out.o.alloc _) (by go_simp) (by omega) (by simp; omega) ?_; intro g6 d6 w8 ho6 hb6 hg6 hat6; have HP := Lib.hid (S2.out.push _ ho6 hb6 hg6 hat6); have hcx3 := HP.out.cell (HFx.out _ _ rfl) HCx.out; have hcy3 := HP.out.cell (HFy.out _ _ rfl) HCy.out; clear ho6 hb6 hg6 hat6))
        all_goals go_wp2_with fail
        all_goals go_roundw
        all_goals first
          | (show _ < _; first | (simp [intOf]; done) | (simp [intOf]; omega))
          | exact ⟨k + 1, d6, g6, _, _, by omega, by go_num, rfl, HN.out, HP.out⟩
      · obtain rfl : k = 4 := by omega
        have hTl : T.length = 4 := by have := rnds_len (fun h k => (h ++ [⟨3, at0 xs k, at0 ys k⟩, ⟨5, h.length, 0⟩], (h.length : Int) + 1)) gs 4; rw [HSP.out] at this; exact this
        have HTL := Lib.hid hTl
        have hGl8 : G.length ≤ 900008 := by omega
        obtain ⟨hc0, hf0⟩ := HBS.out.o.intE 0 (by omega)
        obtain ⟨q0, hq0⟩ : ∃ z, z = at0 T ((0 : Nat) : Int) := ⟨_, rfl⟩
        rw [← hq0] at hc0
        have HQ0 := Lib.hid hq0
        have hct := own_cap HBS.out.o
        clear hTl hf0 hq0 hGl
        go_wp2_with fail
        go_loopw [11, 56] (fun c i wr => ∃ (j : Nat) (G2 : List Gt) (cw : Int), j ≤ 3 ∧ i = .int .i64 (j : Int) ∧ c = .int .i64 cw ∧ andsP T G j = (G2, cw) ∧ Bs w9 wr (w.heap.size + 2) bx G2 (.slice (some ⟨g2, 0, none⟩) os.length d2) gt 4 ct T ∧ G2.length ≤ 900008 + j) (fun _ i _ => (3 - intOf i).toNat)
        case atStart => exact ⟨0, _, _, by omega, rfl, rfl, by show (G, at0 T ((0 : Nat) : Int)) = _; rw [← HQ0.out], HBS.out, by omega⟩
        case round =>
          obtain ⟨j, G2, cw, hj1, rfl, rfl, hap, hb2, hg2⟩ := hrel
          have HAP := Lib.hid hap
          have HB2 := Lib.hid hb2
          clear hap hb2
          by_cases hlt2 : j < 3
          · have hj' : (j : Int) < 3 := by omega
            obtain ⟨hcj, hfj⟩ := HB2.out.o.intE (j + 1) (by rw [HTL.out]; omega)
            obtain ⟨qj, hqj⟩ : ∃ z, z = at0 T ((j + 1 : Nat) : Int) := ⟨_, rfl⟩
            rw [← hqj] at hcj
            rw [Nat.add_comm j 1] at hcj
            have HQJ := Lib.hid hqj
            clear hqj hfj
            go_wp2_with fail
            refine (bgate_any G2 4 cw qj (.slice (some ⟨g2, 0, none⟩) os.length d2) (w.heap.size + 2) bx _ HB2.out.b (by omega)).mono ?_
            rintro e w5 ⟨rfl, hB5, hF5, hL5⟩
            have S5 := Lib.hid (HB2.out.on hB5 hF5 hL5)
            clear hB5 hF5 hL5
            have HN : Hid (andsP T G (j + 1) = (G2 ++ [⟨4, cw, qj⟩], (G2.length : Int))) := by
              show _ = _
              unfold andsP
              rw [HAP.out, HQJ.out]
            go_wp2_with fail
            go_roundw
            case rel => first | exact ⟨j + 1, _, _, by omega, by go_num, rfl, HN.out, S5.out, by simp; omega⟩ | ((repeat apply Exists.intro); exact ⟨⟨j + 1, _, _, by omega, by go_num, rfl, HN.out, S5.out, by simp; omega⟩, rfl⟩)
            case measure => first | (simp [intOf]; done) | (simp [intOf]; omega)
          · obtain rfl : j = 3 := by omega
            have HPP : Hid (equalP xs ys gs = (G2, cw)) := by
              show _ = _
              unfold equalP
              have h : eqsP xs ys gs = (G, T) := HSP.out
              rw [h]
              exact HAP.out
            have HWB10 := Lib.hid (HWB9.out.on HB2.out.b HB2.out.r HB2.out.l)
            have k10_0 := Fr.cell HB2.out.r (HWB9.out.b.frn_lo (by omega)) k9_0
            have k10_1 := Fr.cell HB2.out.r (HWB9.out.b.frn_lo (by omega)) k9_1
            have k10_2 := Fr.cell HB2.out.r (HWB9.out.b.frn_lo (by omega)) k9_2
            have k10_3 := Fr.cell HB2.out.r (HWB9.out.b.frn_lo (by omega)) k9_3
            have f10_0 := Fr.free HB2.out.r (HWB9.out.b.frn_lo (by omega)) f9_0
            have f10_1 := Fr.free HB2.out.r (HWB9.out.b.frn_lo (by omega)) f9_1
            clear k9_0 k9_1 k9_2 k9_3 f9_0 f9_1
            clear HWB9
            obtain ⟨adR, capR, hcR, _, _⟩ := HWB10.out.b.row
            have hc1R := HWB10.out.b.snd
            have hlR := HWB10.out.l
            go_wp2_with fail
            refine bodyPost_ret (v := .tuple #[.agg #[.slice adR G2.length capR, .slice (some ⟨g2, 0, none⟩) os.length d2], .int .i64 cw]) (by simp [results, Try.results26, go_sem, *]) rfl ?_
            rw [HE1.out, HE2.out]
            rw [HPP.out]
            exact HWB10.out.postI hcR (fun b hb => (by (repeat (first | with_reducible exact Kp.refl _ _ | (with_reducible refine Kp.rng ?_ (by assumption) ?_) | (with_reducible refine Kp.below ?_ (by assumption)) | (with_reducible refine Kp.grown ?_ (by assumption) ?_) | (with_reducible refine Kp.alloc ?_ _) | (with_reducible refine Kp.drew ?_) | (with_reducible refine Kp.drewN ?_ _) | (with_reducible refine Kp.setCell ?_ _ ?_))) <;> (first | omega | (simp; done) | (simp; omega)))) (by (repeat (first | with_reducible exact Below.refl _ _ | (with_reducible refine bel_next ?_ ?_ (by assumption)) | (with_reducible refine Below.alloc ?_ ?_ _) | (with_reducible refine Below.drew ?_) | (with_reducible refine below_drewN ?_ _) | (with_reducible refine Below.setCell ?_ ?_ _))) <;> (first | omega | (simp; done) | (simp; omega)))
end Go.Proofs.Ytfcijloiebnloaa

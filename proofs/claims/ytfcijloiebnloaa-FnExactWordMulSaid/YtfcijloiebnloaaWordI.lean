/- Words, the program. -/
import Derived.Test.YtfcijloiebnloaaWordS
import Derived.StillTailTactics
import Derived.Deep.RegionHeld3
import Derived.Deep.RegionLaw
namespace Go.Proofs.Ytfcijloiebnloaa
open Go.RowKit
set_option linter.unusedVariables false
set_option linter.unusedSimpArgs false

theorem bsumW (gs : List Gt) (first : Int) (v : Value) (lo bx : Nat) (w : World) (hB : Bld w lo bx gs v) (hn : gs.length ≤ 900000) (xs : List Int) (ax : Option Addr) (cx : Nat) (hlx : xs.length = 4) (hrx : RdC w ax (I64 xs)) (hfx : FrA w bx ax) (ys : List Int) (ay : Option Addr) (cy : Nat) (hly : ys.length = 4) (hry : RdC w ay (I64 ys)) (hfy : FrA w bx ay) (hcx : 4 ≤ cx) :
    Calls Try.prog 68 #[.pointer (some ⟨bx, 0, none⟩), .slice ax 4 cx, .slice ay 4 cy, .int .i64 first, .int .i64 0] w fun e w' => ∃ g c', e = .returned (.slice (some ⟨g, 0, none⟩) 4 c') ∧ Bs w w' lo bx (sumP xs ys first 3 gs).1 v g 4 c' (sumP xs ys first 3 gs).2 := by
  have := bsum0 gs first v lo bx w hB hn xs ax cx hlx hrx hfx ys ay cy hly hry hfy hcx
  simpa only [List.drop_zero, List.take_zero, List.nil_append] using this
set_option maxRecDepth 20000 in
set_option maxHeartbeats 8000000 in
theorem iWordAdd_any (gs : List Gt) (os : List Int) (a1 a2 : Option Addr) (c1 c2 : Nat) (w : World) (hm : gs.length ≤ 1048576) (hm2 : os.length ≤ 1048576) (hr : RdC w a1 (gtCells gs)) (hr2 : RdC w a2 (I64 os))  (xs : List Int) (nx : Nat) (ax : Option Addr) (cx : Nat) (hlx : xs.length = nx) (hmx : nx ≤ 1048576) (hrx : RdC w ax (I64 xs)) (ys : List Int) (ny : Nat) (ay : Option Addr) (cy : Nat) (hly : ys.length = ny) (hmy : ny ≤ 1048576) (hry : RdC w ay (I64 ys)) (hcx : nx ≤ cx) :
    Calls Try.prog 28 #[.agg #[.slice a1 gs.length c1, .slice a2 os.length c2], .slice ax nx cx, .slice ay ny cy] w fun e w' => PostW w w' e (wP (askB gs os xs ys) (sumP xs ys 0 3 gs) gs []).1 os (wP (askB gs os xs ys) (sumP xs ys 0 3 gs) gs []).2 := by
  have HR := Lib.hid hr
  have HR2 := Lib.hid hr2
  have HRx := Lib.hid hrx
  have HRy := Lib.hid hry
  clear hr hr2 hrx hry
  have nH : w.heap.size ≠ w.heap.size + 1 := by omega
  obtain ⟨PG, hPG⟩ : ∃ z, z = (wP (askB gs os xs ys) (sumP xs ys 0 3 gs) gs []).1 := ⟨_, rfl⟩
  obtain ⟨PW, hPW⟩ : ∃ z, z = (wP (askB gs os xs ys) (sumP xs ys 0 3 gs) gs []).2 := ⟨_, rfl⟩
  rw [← hPG, ← hPW]
  have HPG := Lib.hid hPG
  have HPW := Lib.hid hPW
  clear hPG hPW
  go_enter Try.func28, Try.ntmps28
  go_wp2_with fail
  refine (copyCircuit_any gs os _ _ _ _ _ hm hm2 (HR.out.below (by (repeat (first | with_reducible exact Below.refl _ _ | (with_reducible refine bel_next ?_ ?_ (by assumption)) | (with_reducible refine Below.alloc ?_ ?_ _) | (with_reducible refine Below.drew ?_) | (with_reducible refine below_drewN ?_ _) | (with_reducible refine Below.setCell ?_ ?_ _))) <;> (first | omega | (simp; done) | (simp; omega)))) (HR2.out.below (by (repeat (first | with_reducible exact Below.refl _ _ | (with_reducible refine bel_next ?_ ?_ (by assumption)) | (with_reducible refine Below.alloc ?_ ?_ _) | (with_reducible refine Below.drew ?_) | (with_reducible refine below_drewN ?_ _) | (with_reducible refine Below.setCell ?_ ?_ _))) <;> (first | omega | (simp; done) | (simp; omega))))).mono ?_
  rintro e w1 ⟨g1, d1, g2, d2, rfl, ho1, ho2, hne, hb1⟩
  have z1 := hb1.size
  (try simp at z1)
  have y1a : w.heap.size < w1.heap.size := (by omega)
  have y1b : w.heap.size + 1 < w1.heap.size := (by omega)
  have k1_0 := bel_keeps hb1 (b := w.heap.size) (o := 0) (v := .slice a1 gs.length c1) (by first | (go_simp; done) | assumption)
  have k1_1 := bel_keeps hb1 (b := w.heap.size) (o := 1) (v := .slice a2 os.length c2) (by first | (go_simp; done) | assumption)
  have k1_2 := bel_keeps hb1 (b := w.heap.size + 1) (o := 0) (v := .slice none 0 0) (by first | (go_simp; done) | assumption)
  have k1_3 := bel_keeps hb1 (b := w.heap.size + 1) (o := 1) (v := .slice none 0 0) (by first | (go_simp; done) | assumption)
  have f1_0 := bel_free hb1 (b := w.heap.size + 1) (o := 0) (by first | omega | (simp; done) | (simp; omega)) (by first | (go_simp; done) | assumption)
  have f1_1 := bel_free hb1 (b := w.heap.size + 1) (o := 1) (by first | omega | (simp; done) | (simp; omega)) (by first | (go_simp; done) | assumption)
  have hbw1 : Below w.heap.size w w1 := (by (repeat (first | with_reducible exact Below.refl _ _ | (with_reducible refine bel_next ?_ ?_ (by assumption)) | (with_reducible refine Below.alloc ?_ ?_ _) | (with_reducible refine Below.drew ?_) | (with_reducible refine below_drewN ?_ _) | (with_reducible refine Below.setCell ?_ ?_ _))) <;> (first | omega | (simp; done) | (simp; omega)))
  go_wp2_with fail
  obtain ⟨W, hW⟩ : ∃ W, W = w1.alloc (.cells #[.slice (some ⟨g1, 0, none⟩) gs.length d1, .slice (some ⟨g2, 0, none⟩) os.length d2] 72) := ⟨_, rfl⟩
  obtain ⟨bx, hbx⟩ : ∃ b, b = w1.heap.size := ⟨_, rfl⟩
  rw [← hW, ← hbx]
  have hWs : W.heap.size = bx + 1 := by rw [hW, hbx]; simp
  rw [← hWs]
  clear hWs
  have hbW : Below w1.heap.size w1 W := by rw [hW]; exact (Below.refl _ _).alloc (Nat.le_refl _) _
  have HWB := Lib.hid (WB.start (w0 := w) (w := W) (bx := bx) (ho1.lo (by simp)) (ho2.lo (by simp)) hne (hbw1.trans (hbW.mono (by omega))) hbW hbx (by rw [hW]; simp) (by rw [hW, hbx]; go_simp) (by rw [hW, hbx]; go_simp) (by rw [hW, hbx]; go_simp) (by rw [hW, hbx]; go_simp))
  have hbb : w.heap.size + 2 ≤ bx := by omega
  have zW := hbW.size
  (try simp at zW)
  have yWa : w.heap.size < W.heap.size := (by omega)
  have yWb : w.heap.size + 1 < W.heap.size := (by omega)
  have kW_0 := bel_keeps hbW (b := w.heap.size) (o := 0) (v := .slice a1 gs.length c1) (by first | (go_simp; done) | assumption)
  have kW_1 := bel_keeps hbW (b := w.heap.size) (o := 1) (v := .slice a2 os.length c2) (by first | (go_simp; done) | assumption)
  have kW_2 := bel_keeps hbW (b := w.heap.size + 1) (o := 0) (v := .slice none 0 0) (by first | (go_simp; done) | assumption)
  have kW_3 := bel_keeps hbW (b := w.heap.size + 1) (o := 1) (v := .slice none 0 0) (by first | (go_simp; done) | assumption)
  have fW_0 := bel_free hbW (b := w.heap.size + 1) (o := 0) (by first | omega | (simp; done) | (simp; omega)) (by first | (go_simp; done) | assumption)
  have fW_1 := bel_free hbW (b := w.heap.size + 1) (o := 1) (by first | omega | (simp; done) | (simp; omega)) (by first | (go_simp; done) | assumption)
  clear k1_0 k1_1 k1_2 k1_3 f1_0 f1_1
  clear hW hbx hbW ho1 ho2 hne hb1 hbw1
  have hlW := HWB.out.l
  refine (isWordOf2_any gs os _ _ _ _ _ hm hm2 (HR.out.below (hlW.trans (((Below.refl _ _).alloc (Nat.le_refl _) _).mono (by omega)))) (HR2.out.below (hlW.trans (((Below.refl _ _).alloc (Nat.le_refl _) _).mono (by omega)))) xs nx ax cx hlx hmx (HRx.out.below (hlW.trans (((Below.refl _ _).alloc (Nat.le_refl _) _).mono (by omega)))) ys ny ay cy hly hmy (HRy.out.below (hlW.trans (((Below.refl _ _).alloc (Nat.le_refl _) _).mono (by omega)))) W.heap.size 2 (by go_simp) (by go_simp)).mono ?_
  rintro e w9 ⟨rfl, hb0⟩
  have hb9 : Below W.heap.size W w9 := ((Below.refl _ _).alloc (Nat.le_refl _) _).trans (hb0.mono (by simp))
  clear hb0
  have HWB9 := Lib.hid (HWB.out.below hb9)
  have z9 := hb9.size
  (try simp at z9)
  have y9a : w.heap.size < w9.heap.size := (by omega)
  have y9b : w.heap.size + 1 < w9.heap.size := (by omega)
  have k9_0 := bel_keeps hb9 (b := w.heap.size) (o := 0) (v := .slice a1 gs.length c1) (by first | (go_simp; done) | assumption)
  have k9_1 := bel_keeps hb9 (b := w.heap.size) (o := 1) (v := .slice a2 os.length c2) (by first | (go_simp; done) | assumption)
  have k9_2 := bel_keeps hb9 (b := w.heap.size + 1) (o := 0) (v := .slice none 0 0) (by first | (go_simp; done) | assumption)
  have k9_3 := bel_keeps hb9 (b := w.heap.size + 1) (o := 1) (v := .slice none 0 0) (by first | (go_simp; done) | assumption)
  have f9_0 := bel_free hb9 (b := w.heap.size + 1) (o := 0) (by first | omega | (simp; done) | (simp; omega)) (by first | (go_simp; done) | assumption)
  have f9_1 := bel_free hb9 (b := w.heap.size + 1) (o := 1) (by first | omega | (simp; done) | (simp; omega)) (by first | (go_simp; done) | assumption)
  clear kW_0 kW_1 kW_2 kW_3 fW_0 fW_1
  clear hb9
  cases hq : askB gs os xs ys
  · have e1 : PG = gs := by rw [HPG.out, show (askB gs os xs ys) = false from hq]; rfl
    have e2 : PW = [] := by rw [HPW.out, show (askB gs os xs ys) = false from hq]; rfl
    have HE1 := Lib.hid e1
    have HE2 := Lib.hid e2
    clear e1 e2
    obtain ⟨adR, capR, hcR, _, _⟩ := HWB9.out.b.row
    have hc1R := HWB9.out.b.snd
    have hlR := HWB9.out.l
    go_wp2_with fail
    refine bodyPost_ret (v := .tuple #[.agg #[.slice adR gs.length capR, .slice (some ⟨g2, 0, none⟩) os.length d2], .slice none 0 0]) (by simp [results, Try.results28, go_sem, *]) rfl ?_
    rw [HE1.out, HE2.out]
    exact HWB9.out.postW hcR rfl (own_nil _ _ _ _) (fun y e => by cases e) (Nat.le_refl _) (fun b hb => (by (repeat (first | with_reducible exact Kp.refl _ _ | (with_reducible refine Kp.rng ?_ (by assumption) ?_) | (with_reducible refine Kp.below ?_ (by assumption)) | (with_reducible refine Kp.grown ?_ (by assumption) ?_) | (with_reducible refine Kp.alloc ?_ _) | (with_reducible refine Kp.drew ?_) | (with_reducible refine Kp.drewN ?_ _) | (with_reducible refine Kp.setCell ?_ _ ?_))) <;> (first | omega | (simp; done) | (simp; omega)))) (by (repeat (first | with_reducible exact Below.refl _ _ | (with_reducible refine bel_next ?_ ?_ (by assumption)) | (with_reducible refine Below.alloc ?_ ?_ _) | (with_reducible refine Below.drew ?_) | (with_reducible refine below_drewN ?_ _) | (with_reducible refine Below.setCell ?_ ?_ _))) <;> (first | omega | (simp; done) | (simp; omega) | (simp [World.setCell]; omega)))
  · have e1 : PG = (sumP xs ys 0 3 gs).1 := by rw [HPG.out, show (askB gs os xs ys) = true from hq]; rfl
    have e2 : PW = (sumP xs ys 0 3 gs).2 := by rw [HPW.out, show (askB gs os xs ys) = true from hq]; rfl
    have HE1 := Lib.hid e1
    have HE2 := Lib.hid e2
    clear e1 e2
    obtain ⟨hx4, hy4, h59⟩ := askB_len hq
    rw [hlx] at hx4
    rw [hly] at hy4
    subst hx4; subst hy4
    have frx10 := HWB9.out.fra HRx.out (by omega)
    have rdx10 := HRx.out.below HWB9.out.l
    have fry10 := HWB9.out.fra HRy.out (by omega)
    have rdy10 := HRy.out.below HWB9.out.l
    go_wp2_with fail
    refine (bsumW gs 0 _ _ bx _ HWB9.out.b (by omega) xs ax cx hlx rdx10 frx10 ys ay cy hly rdy10 fry10 hcx).mono ?_
    rintro e w10 ⟨h10, c10, rfl, hs10⟩
    have HWB10 := Lib.hid (HWB9.out.on hs10.b hs10.r hs10.l)
    have k10_0 := Fr.cell hs10.r (HWB9.out.b.frn_lo (by omega)) k9_0
    have k10_1 := Fr.cell hs10.r (HWB9.out.b.frn_lo (by omega)) k9_1
    have k10_2 := Fr.cell hs10.r (HWB9.out.b.frn_lo (by omega)) k9_2
    have k10_3 := Fr.cell hs10.r (HWB9.out.b.frn_lo (by omega)) k9_3
    have f10_0 := Fr.free hs10.r (HWB9.out.b.frn_lo (by omega)) f9_0
    have f10_1 := Fr.free hs10.r (HWB9.out.b.frn_lo (by omega)) f9_1
    clear k9_0 k9_1 k9_2 k9_3 f9_0 f9_1
    have HS10 := Lib.hid hs10
    clear hs10 frx10 rdx10 fry10 rdy10
    obtain ⟨adR, capR, hcR, _, _⟩ := HWB10.out.b.row
    have hc1R := HWB10.out.b.snd
    have hlR := HWB10.out.l
    go_wp2_with fail
    refine bodyPost_ret (v := .tuple #[.agg #[.slice adR (sumP xs ys 0 3 gs).1.length capR, .slice (some ⟨g2, 0, none⟩) os.length d2], .slice (some ⟨h10, 0, none⟩) 4 c10]) (by simp [results, Try.results28, go_sem, *]) rfl ?_
    rw [HE1.out, HE2.out]
    exact HWB10.out.postW hcR (by have := HS10.out.o.len; simpa using this.symm) (by have h1 := HS10.out.ge; have h2 := HWB9.out.b.le; exact HS10.out.o.later (by (repeat (first | with_reducible exact Kp.refl _ _ | (with_reducible refine Kp.rng ?_ (by assumption) ?_) | (with_reducible refine Kp.below ?_ (by assumption)) | (with_reducible refine Kp.grown ?_ (by assumption) ?_) | (with_reducible refine Kp.alloc ?_ _) | (with_reducible refine Kp.drew ?_) | (with_reducible refine Kp.drewN ?_ _) | (with_reducible refine Kp.setCell ?_ _ ?_))) <;> (first | omega | (simp; done) | (simp; omega)))) (fun y e => by obtain rfl := Option.some.inj e; exact ⟨HS10.out.f.2.2, by have h1 := HS10.out.ge; have h2 := HWB9.out.f.1; show h10 ≠ g2; omega⟩) (by have := HWB9.out.b.le; omega) (fun b hb => (by (repeat (first | with_reducible exact Kp.refl _ _ | (with_reducible refine Kp.rng ?_ (by assumption) ?_) | (with_reducible refine Kp.below ?_ (by assumption)) | (with_reducible refine Kp.grown ?_ (by assumption) ?_) | (with_reducible refine Kp.alloc ?_ _) | (with_reducible refine Kp.drew ?_) | (with_reducible refine Kp.drewN ?_ _) | (with_reducible refine Kp.setCell ?_ _ ?_))) <;> (first | omega | (simp; done) | (simp; omega)))) (by (repeat (first | with_reducible exact Below.refl _ _ | (with_reducible refine bel_next ?_ ?_ (by assumption)) | (with_reducible refine Below.alloc ?_ ?_ _) | (with_reducible refine Below.drew ?_) | (with_reducible refine below_drewN ?_ _) | (with_reducible refine Below.setCell ?_ ?_ _))) <;> (first | omega | (simp; done) | (simp; omega)))
set_option maxRecDepth 20000 in
set_option maxHeartbeats 8000000 in
theorem iWordSub_any (gs : List Gt) (os : List Int) (a1 a2 : Option Addr) (c1 c2 : Nat) (w : World) (hm : gs.length ≤ 1048576) (hm2 : os.length ≤ 1048576) (hr : RdC w a1 (gtCells gs)) (hr2 : RdC w a2 (I64 os))  (xs : List Int) (nx : Nat) (ax : Option Addr) (cx : Nat) (hlx : xs.length = nx) (hmx : nx ≤ 1048576) (hrx : RdC w ax (I64 xs)) (ys : List Int) (ny : Nat) (ay : Option Addr) (cy : Nat) (hly : ys.length = ny) (hmy : ny ≤ 1048576) (hry : RdC w ay (I64 ys)) (hcx : nx ≤ cx) :
    Calls Try.prog 32 #[.agg #[.slice a1 gs.length c1, .slice a2 os.length c2], .slice ax nx cx, .slice ay ny cy] w fun e w' => PostW w w' e (wP (askB gs os xs ys) (sumP xs (notsP ys gs).2 1 3 (notsP ys gs).1) gs []).1 os (wP (askB gs os xs ys) (sumP xs (notsP ys gs).2 1 3 (notsP ys gs).1) gs []).2 := by
  have HR := Lib.hid hr
  have HR2 := Lib.hid hr2
  have HRx := Lib.hid hrx
  have HRy := Lib.hid hry
  clear hr hr2 hrx hry
  have nH : w.heap.size ≠ w.heap.size + 1 := by omega
  obtain ⟨PG, hPG⟩ : ∃ z, z = (wP (askB gs os xs ys) (sumP xs (notsP ys gs).2 1 3 (notsP ys gs).1) gs []).1 := ⟨_, rfl⟩
  obtain ⟨PW, hPW⟩ : ∃ z, z = (wP (askB gs os xs ys) (sumP xs (notsP ys gs).2 1 3 (notsP ys gs).1) gs []).2 := ⟨_, rfl⟩
  rw [← hPG, ← hPW]
  have HPG := Lib.hid hPG
  have HPW := Lib.hid hPW
  clear hPG hPW
  go_enter Try.func32, Try.ntmps32
  go_wp2_with fail
  refine (copyCircuit_any gs os _ _ _ _ _ hm hm2 (HR.out.below (by (repeat (first | with_reducible exact Below.refl _ _ | (with_reducible refine bel_next ?_ ?_ (by assumption)) | (with_reducible refine Below.alloc ?_ ?_ _) | (with_reducible refine Below.drew ?_) | (with_reducible refine below_drewN ?_ _) | (with_reducible refine Below.setCell ?_ ?_ _))) <;> (first | omega | (simp; done) | (simp; omega)))) (HR2.out.below (by (repeat (first | with_reducible exact Below.refl _ _ | (with_reducible refine bel_next ?_ ?_ (by assumption)) | (with_reducible refine Below.alloc ?_ ?_ _) | (with_reducible refine Below.drew ?_) | (with_reducible refine below_drewN ?_ _) | (with_reducible refine Below.setCell ?_ ?_ _))) <;> (first | omega | (simp; done) | (simp; omega))))).mono ?_
  rintro e w1 ⟨g1, d1, g2, d2, rfl, ho1, ho2, hne, hb1⟩
  have z1 := hb1.size
  (try simp at z1)
  have y1a : w.heap.size < w1.heap.size := (by omega)
  have y1b : w.heap.size + 1 < w1.heap.size := (by omega)
  have k1_0 := bel_keeps hb1 (b := w.heap.size) (o := 0) (v := .slice a1 gs.length c1) (by first | (go_simp; done) | assumption)
  have k1_1 := bel_keeps hb1 (b := w.heap.size) (o := 1) (v := .slice a2 os.length c2) (by first | (go_simp; done) | assumption)
  have k1_2 := bel_keeps hb1 (b := w.heap.size + 1) (o := 0) (v := .slice none 0 0) (by first | (go_simp; done) | assumption)
  have k1_3 := bel_keeps hb1 (b := w.heap.size + 1) (o := 1) (v := .slice none 0 0) (by first | (go_simp; done) | assumption)
  have f1_0 := bel_free hb1 (b := w.heap.size + 1) (o := 0) (by first | omega | (simp; done) | (simp; omega)) (by first | (go_simp; done) | assumption)
  have f1_1 := bel_free hb1 (b := w.heap.size + 1) (o := 1) (by first | omega | (simp; done) | (simp; omega)) (by first | (go_simp; done) | assumption)
  have hbw1 : Below w.heap.size w w1 := (by (repeat (first | with_reducible exact Below.refl _ _ | (with_reducible refine bel_next ?_ ?_ (by assumption)) | (with_reducible refine Below.alloc ?_ ?_ _) | (with_reducible refine Below.drew ?_) | (with_reducible refine below_drewN ?_ _) | (with_reducible refine Below.setCell ?_ ?_ _))) <;> (first | omega | (simp; done) | (simp; omega)))
  go_wp2_with fail
  obtain ⟨W, hW⟩ : ∃ W, W = w1.alloc (.cells #[.slice (some ⟨g1, 0, none⟩) gs.length d1, .slice (some ⟨g2, 0, none⟩) os.length d2] 72) := ⟨_, rfl⟩
  obtain ⟨bx, hbx⟩ : ∃ b, b = w1.heap.size := ⟨_, rfl⟩
  rw [← hW, ← hbx]
  have hWs : W.heap.size = bx + 1 := by rw [hW, hbx]; simp
  rw [← hWs]
  clear hWs
  have hbW : Below w1.heap.size w1 W := by rw [hW]; exact (Below.refl _ _).alloc (Nat.le_refl _) _
  have HWB := Lib.hid (WB.start (w0 := w) (w := W) (bx := bx) (ho1.lo (by simp)) (ho2.lo (by simp)) hne (hbw1.trans (hbW.mono (by omega))) hbW hbx (by rw [hW]; simp) (by rw [hW, hbx]; go_simp) (by rw [hW, hbx]; go_simp) (by rw [hW, hbx]; go_simp) (by rw [hW, hbx]; go_simp))
  have hbb : w.heap.size + 2 ≤ bx := by omega
  have zW := hbW.size
  (try simp at zW)
  have yWa : w.heap.size < W.heap.size := (by omega)
  have yWb : w.heap.size + 1 < W.heap.size := (by omega)
  have kW_0 := bel_keeps hbW (b := w.heap.size) (o := 0) (v := .slice a1 gs.length c1) (by first | (go_simp; done) | assumption)
  have kW_1 := bel_keeps hbW (b := w.heap.size) (o := 1) (v := .slice a2 os.length c2) (by first | (go_simp; done) | assumption)
  have kW_2 := bel_keeps hbW (b := w.heap.size + 1) (o := 0) (v := .slice none 0 0) (by first | (go_simp; done) | assumption)
  have kW_3 := bel_keeps hbW (b := w.heap.size + 1) (o := 1) (v := .slice none 0 0) (by first | (go_simp; done) | assumption)
  have fW_0 := bel_free hbW (b := w.heap.size + 1) (o := 0) (by first | omega | (simp; done) | (simp; omega)) (by first | (go_simp; done) | assumption)
  have fW_1 := bel_free hbW (b := w.heap.size + 1) (o := 1) (by first | omega | (simp; done) | (simp; omega)) (by first | (go_simp; done) | assumption)
  clear k1_0 k1_1 k1_2 k1_3 f1_0 f1_1
  clear hW hbx hbW ho1 ho2 hne hb1 hbw1
  have hlW := HWB.out.l
  refine (isWordOf2_any gs os _ _ _ _ _ hm hm2 (HR.out.below (hlW.trans (((Below.refl _ _).alloc (Nat.le_refl _) _).mono (by omega)))) (HR2.out.below (hlW.trans (((Below.refl _ _).alloc (Nat.le_refl _) _).mono (by omega)))) xs nx ax cx hlx hmx (HRx.out.below (hlW.trans (((Below.refl _ _).alloc (Nat.le_refl _) _).mono (by omega)))) ys ny ay cy hly hmy (HRy.out.below (hlW.trans (((Below.refl _ _).alloc (Nat.le_refl _) _).mono (by omega)))) W.heap.size 2 (by go_simp) (by go_simp)).mono ?_
  rintro e w9 ⟨rfl, hb0⟩
  have hb9 : Below W.heap.size W w9 := ((Below.refl _ _).alloc (Nat.le_refl _) _).trans (hb0.mono (by simp))
  clear hb0
  have HWB9 := Lib.hid (HWB.out.below hb9)
  have z9 := hb9.size
  (try simp at z9)
  have y9a : w.heap.size < w9.heap.size := (by omega)
  have y9b : w.heap.size + 1 < w9.heap.size := (by omega)
  have k9_0 := bel_keeps hb9 (b := w.heap.size) (o := 0) (v := .slice a1 gs.length c1) (by first | (go_simp; done) | assumption)
  have k9_1 := bel_keeps hb9 (b := w.heap.size) (o := 1) (v := .slice a2 os.length c2) (by first | (go_simp; done) | assumption)
  have k9_2 := bel_keeps hb9 (b := w.heap.size + 1) (o := 0) (v := .slice none 0 0) (by first | (go_simp; done) | assumption)
  have k9_3 := bel_keeps hb9 (b := w.heap.size + 1) (o := 1) (v := .slice none 0 0) (by first | (go_simp; done) | assumption)
  have f9_0 := bel_free hb9 (b := w.heap.size + 1) (o := 0) (by first | omega | (simp; done) | (simp; omega)) (by first | (go_simp; done) | assumption)
  have f9_1 := bel_free hb9 (b := w.heap.size + 1) (o := 1) (by first | omega | (simp; done) | (simp; omega)) (by first | (go_simp; done) | assumption)
  clear kW_0 kW_1 kW_2 kW_3 fW_0 fW_1
  clear hb9
  cases hq : askB gs os xs ys
  · have e1 : PG = gs := by rw [HPG.out, show (askB gs os xs ys) = false from hq]; rfl
    have e2 : PW = [] := by rw [HPW.out, show (askB gs os xs ys) = false from hq]; rfl
    have HE1 := Lib.hid e1
    have HE2 := Lib.hid e2
    clear e1 e2
    obtain ⟨adR, capR, hcR, _, _⟩ := HWB9.out.b.row
    have hc1R := HWB9.out.b.snd
    have hlR := HWB9.out.l
    go_wp2_with fail
    refine bodyPost_ret (v := .tuple #[.agg #[.slice adR gs.length capR, .slice (some ⟨g2, 0, none⟩) os.length d2], .slice none 0 0]) (by simp [results, Try.results32, go_sem, *]) rfl ?_
    rw [HE1.out, HE2.out]
    exact HWB9.out.postW hcR rfl (own_nil _ _ _ _) (fun y e => by cases e) (Nat.le_refl _) (fun b hb => (by (repeat (first | with_reducible exact Kp.refl _ _ | (with_reducible refine Kp.rng ?_ (by assumption) ?_) | (with_reducible refine Kp.below ?_ (by assumption)) | (with_reducible refine Kp.grown ?_ (by assumption) ?_) | (with_reducible refine Kp.alloc ?_ _) | (with_reducible refine Kp.drew ?_) | (with_reducible refine Kp.drewN ?_ _) | (with_reducible refine Kp.setCell ?_ _ ?_))) <;> (first | omega | (simp; done) | (simp; omega)))) (by (repeat (first | with_reducible exact Below.refl _ _ | (with_reducible refine bel_next ?_ ?_ (by assumption)) | (with_reducible refine Below.alloc ?_ ?_ _) | (with_reducible refine Below.drew ?_) | (with_reducible refine below_drewN ?_ _) | (with_reducible refine Below.setCell ?_ ?_ _))) <;> (first | omega | (simp; done) | (simp; omega) | (simp [World.setCell]; omega)))
  · have e1 : PG = (sumP xs (notsP ys gs).2 1 3 (notsP ys gs).1).1 := by rw [HPG.out, show (askB gs os xs ys) = true from hq]; rfl
    have e2 : PW = (sumP xs (notsP ys gs).2 1 3 (notsP ys gs).1).2 := by rw [HPW.out, show (askB gs os xs ys) = true from hq]; rfl
    have HE1 := Lib.hid e1
    have HE2 := Lib.hid e2
    clear e1 e2
    obtain ⟨hx4, hy4, h59⟩ := askB_len hq
    rw [hlx] at hx4
    rw [hly] at hy4
    subst hx4; subst hy4
    have frx10 := HWB9.out.fra HRx.out (by omega)
    have rdx10 := HRx.out.below HWB9.out.l
    have fry10 := HWB9.out.fra HRy.out (by omega)
    have rdy10 := HRy.out.below HWB9.out.l
    go_wp2_with fail
    refine (nots_any gs _ _ bx _ HWB9.out.b (by omega) ys ay cy hly rdy10 fry10).mono ?_
    rintro e w10 ⟨h10, c10, rfl, hs10⟩
    have HWB10 := Lib.hid (HWB9.out.on hs10.b hs10.r hs10.l)
    have k10_0 := Fr.cell hs10.r (HWB9.out.b.frn_lo (by omega)) k9_0
    have k10_1 := Fr.cell hs10.r (HWB9.out.b.frn_lo (by omega)) k9_1
    have k10_2 := Fr.cell hs10.r (HWB9.out.b.frn_lo (by omega)) k9_2
    have k10_3 := Fr.cell hs10.r (HWB9.out.b.frn_lo (by omega)) k9_3
    have f10_0 := Fr.free hs10.r (HWB9.out.b.frn_lo (by omega)) f9_0
    have f10_1 := Fr.free hs10.r (HWB9.out.b.frn_lo (by omega)) f9_1
    clear k9_0 k9_1 k9_2 k9_3 f9_0 f9_1
    have HS10 := Lib.hid hs10
    clear hs10 frx10 rdx10 fry10 rdy10
    have frx11 := HWB10.out.fra HRx.out (by omega)
    have rdx11 := HRx.out.below HWB10.out.l
    have fry11 := HWB10.out.fra HRy.out (by omega)
    have rdy11 := HRy.out.below HWB10.out.l
    go_wp2_with fail
    refine (bsumW (notsP ys gs).1 1 _ _ bx _ HWB10.out.b (by have := (notsP_len ys gs).1; omega) xs ax cx hlx rdx11 frx11 (notsP ys gs).2 (some ⟨h10, 0, none⟩) c10 (notsP_len ys gs).2 HS10.out.o.rd (fun b off e => by cases e; exact HS10.out.f) hcx).mono ?_
    rintro e w11 ⟨h11, c11, rfl, hs11⟩
    have HWB11 := Lib.hid (HWB10.out.on hs11.b hs11.r hs11.l)
    have k11_0 := Fr.cell hs11.r (HWB10.out.b.frn_lo (by omega)) k10_0
    have k11_1 := Fr.cell hs11.r (HWB10.out.b.frn_lo (by omega)) k10_1
    have k11_2 := Fr.cell hs11.r (HWB10.out.b.frn_lo (by omega)) k10_2
    have k11_3 := Fr.cell hs11.r (HWB10.out.b.frn_lo (by omega)) k10_3
    have f11_0 := Fr.free hs11.r (HWB10.out.b.frn_lo (by omega)) f10_0
    have f11_1 := Fr.free hs11.r (HWB10.out.b.frn_lo (by omega)) f10_1
    clear k10_0 k10_1 k10_2 k10_3 f10_0 f10_1
    have HS11 := Lib.hid hs11
    clear hs11 frx11 rdx11 fry11 rdy11
    obtain ⟨adR, capR, hcR, _, _⟩ := HWB11.out.b.row
    have hc1R := HWB11.out.b.snd
    have hlR := HWB11.out.l
    go_wp2_with fail
    refine bodyPost_ret (v := .tuple #[.agg #[.slice adR (sumP xs (notsP ys gs).2 1 3 (notsP ys gs).1).1.length capR, .slice (some ⟨g2, 0, none⟩) os.length d2], .slice (some ⟨h11, 0, none⟩) 4 c11]) (by simp [results, Try.results32, go_sem, *]) rfl ?_
    rw [HE1.out, HE2.out]
    exact HWB11.out.postW hcR (by have := HS11.out.o.len; simpa using this.symm) (by have h1 := HS11.out.ge; have h2 := HWB10.out.b.le; exact HS11.out.o.later (by (repeat (first | with_reducible exact Kp.refl _ _ | (with_reducible refine Kp.rng ?_ (by assumption) ?_) | (with_reducible refine Kp.below ?_ (by assumption)) | (with_reducible refine Kp.grown ?_ (by assumption) ?_) | (with_reducible refine Kp.alloc ?_ _) | (with_reducible refine Kp.drew ?_) | (with_reducible refine Kp.drewN ?_ _) | (with_reducible refine Kp.setCell ?_ _ ?_))) <;> (first | omega | (simp; done) | (simp; omega)))) (fun y e => by obtain rfl := Option.some.inj e; exact ⟨HS11.out.f.2.2, by have h1 := HS11.out.ge; have h2 := HWB10.out.f.1; show h11 ≠ g2; omega⟩) (by have := HWB10.out.b.le; omega) (fun b hb => (by (repeat (first | with_reducible exact Kp.refl _ _ | (with_reducible refine Kp.rng ?_ (by assumption) ?_) | (with_reducible refine Kp.below ?_ (by assumption)) | (with_reducible refine Kp.grown ?_ (by assumption) ?_) | (with_reducible refine Kp.alloc ?_ _) | (with_reducible refine Kp.drew ?_) | (with_reducible refine Kp.drewN ?_ _) | (with_reducible refine Kp.setCell ?_ _ ?_))) <;> (first | omega | (simp; done) | (simp; omega)))) (by (repeat (first | with_reducible exact Below.refl _ _ | (with_reducible refine bel_next ?_ ?_ (by assumption)) | (with_reducible refine Below.alloc ?_ ?_ _) | (with_reducible refine Below.drew ?_) | (with_reducible refine below_drewN ?_ _) | (with_reducible refine Below.setCell ?_ ?_ _))) <;> (first | omega | (simp; done) | (simp; omega)))
end Go.Proofs.Ytfcijloiebnloaa

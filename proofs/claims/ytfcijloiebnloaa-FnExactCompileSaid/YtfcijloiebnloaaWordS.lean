/- Words, the reference. -/
import Derived.Test.YtfcijloiebnloaaWb
import Derived.Test.YtfcijloiebnloaaBldA
import Derived.Test.YtfcijloiebnloaaBldB
import Derived.Test.YtfcijloiebnloaaBldC
import Derived.Test.YtfcijloiebnloaaAsk
import Derived.StillTailTactics
import Derived.Deep.RegionHeld3
import Derived.Deep.RegionLaw
namespace Go.Proofs.Ytfcijloiebnloaa
open Go.RowKit
set_option linter.unusedVariables false
set_option linter.unusedSimpArgs false

theorem askB_len {gs : List Gt} {os xs ys : List Int} (h : askB gs os xs ys = true) : xs.length = 4 ∧ ys.length = 4 ∧ gs.length ≤ 5900 := by
  simp [askB, roomB, wordB] at h
  omega
theorem notsP_len (b : List Int) (gs : List Gt) : (notsP b gs).1.length ≤ gs.length + 4 ∧ (notsP b gs).2.length = 4 := by
  have h1 := rnds_le (f := fun h k => put1 h ⟨5, at0 b k, 0⟩) (m := 1) (by intro h k; simp [put1]) gs 4
  have h2 := rnds_len (fun h k => put1 h ⟨5, at0 b k, 0⟩) gs 4
  exact ⟨by simpa [notsP] using h1, by simpa [notsP] using h2⟩
theorem own_nil (w : World) (lo e size : Nat) : Own w lo e size none 0 0 [] := ⟨by simp, .inl ⟨rfl, rfl⟩⟩

set_option maxRecDepth 20000 in
set_option maxHeartbeats 8000000 in
theorem sWordAdd_any (gs : List Gt) (os : List Int) (a1 a2 : Option Addr) (c1 c2 : Nat) (w : World) (hm : gs.length ≤ 1048576) (hm2 : os.length ≤ 1048576) (hr : RdC w a1 (gtCells gs)) (hr2 : RdC w a2 (I64 os))  (xs : List Int) (nx : Nat) (ax : Option Addr) (cx : Nat) (hlx : xs.length = nx) (hmx : nx ≤ 1048576) (hrx : RdC w ax (I64 xs)) (ys : List Int) (ny : Nat) (ay : Option Addr) (cy : Nat) (hly : ys.length = ny) (hmy : ny ≤ 1048576) (hry : RdC w ay (I64 ys))  :
    Calls Try.prog 27 #[.agg #[.slice a1 gs.length c1, .slice a2 os.length c2], .slice ax nx cx, .slice ay ny cy] w fun e w' => PostW w w' e (wP (askB gs os xs ys) (sumP xs ys 0 3 gs) gs []).1 os (wP (askB gs os xs ys) (sumP xs ys 0 3 gs) gs []).2 := by
  have HR := Lib.hid hr
  have HR2 := Lib.hid hr2
  have HRx := Lib.hid hrx
  have HRy := Lib.hid hry
  clear hr hr2 hrx hry
  have nH : w.heap.size ≠ w.heap.size + 1 := by omega
  obtain ⟨PG, hPG⟩ : ∃ z, z = (wP (askB gs os xs ys) (sumP xs ys 0 3 gs) gs []).1 := ⟨_, rfl⟩
  obtain ⟨PW, hPW⟩ : ∃ z, z = (wP (askB gs os xs ys) (sumP xs ys 0 3 gs) gs []).2 := ⟨_, rfl⟩
  rw [← hPG, ← hPW]
  have HPG := Lib.hid hPG
  have HPW := Lib.hid hPW
  clear hPG hPW
  go_enter Try.func27, Try.ntmps27
  go_wp2_with fail
  refine (l14Copy_any gs os _ _ _ _ _ hm hm2 (HR.out.below (by (repeat (first | with_reducible exact Below.refl _ _ | (with_reducible refine bel_next ?_ ?_ (by assumption)) | (with_reducible refine Below.alloc ?_ ?_ _) | (with_reducible refine Below.drew ?_) | (with_reducible refine below_drewN ?_ _) | (with_reducible refine Below.setCell ?_ ?_ _))) <;> (first | omega | (simp; done) | (simp; omega)))) (HR2.out.below (by (repeat (first | with_reducible exact Below.refl _ _ | (with_reducible refine bel_next ?_ ?_ (by assumption)) | (with_reducible refine Below.alloc ?_ ?_ _) | (with_reducible refine Below.drew ?_) | (with_reducible refine below_drewN ?_ _) | (with_reducible refine Below.setCell ?_ ?_ _))) <;> (first | omega | (simp; done) | (simp; omega))))).mono ?_
  rintro e w1 ⟨g1, d1, g2, d2, rfl, ho1, ho2, hne, hb1⟩
  have z1 := hb1.size
  (try simp at z1)
  have y1a : w.heap.size < w1.heap.size := (by omega)
  have y1b : w.heap.size + 1 < w1.heap.size := (by omega)
  have k1_0 := bel_keeps hb1 (b := w.heap.size) (o := 0) (v := .slice a1 gs.length c1) (by first | (go_simp; done) | assumption)
  have k1_1 := bel_keeps hb1 (b := w.heap.size) (o := 1) (v := .slice a2 os.length c2) (by first | (go_simp; done) | assumption)
  have k1_2 := bel_keeps hb1 (b := w.heap.size + 1) (o := 0) (v := .slice none 0 0) (by first | (go_simp; done) | assumption)
  have k1_3 := bel_keeps hb1 (b := w.heap.size + 1) (o := 1) (v := .slice none 0 0) (by first | (go_simp; done) | assumption)
  have f1_0 := bel_free hb1 (b := w.heap.size + 1) (o := 0) (by first | omega | (simp; done) | (simp; omega)) (by first | (go_simp; done) | assumption)
  have f1_1 := bel_free hb1 (b := w.heap.size + 1) (o := 1) (by first | omega | (simp; done) | (simp; omega)) (by first | (go_simp; done) | assumption)
  have hbw1 : Below w.heap.size w w1 := (by (repeat (first | with_reducible exact Below.refl _ _ | (with_reducible refine bel_next ?_ ?_ (by assumption)) | (with_reducible refine Below.alloc ?_ ?_ _) | (with_reducible refine Below.drew ?_) | (with_reducible refine below_drewN ?_ _) | (with_reducible refine Below.setCell ?_ ?_ _))) <;> (first | omega | (simp; done) | (simp; omega)))
  go_wp2_with fail
  obtain ⟨W, hW⟩ : ∃ W, W = w1.alloc (.cells #[.slice (some ⟨g1, 0, none⟩) gs.length d1, .slice (some ⟨g2, 0, none⟩) os.length d2] 29) := ⟨_, rfl⟩
  obtain ⟨bx, hbx⟩ : ∃ b, b = w1.heap.size := ⟨_, rfl⟩
  rw [← hW, ← hbx]
  have hbW : Below w1.heap.size w1 W := by rw [hW]; exact (Below.refl _ _).alloc (Nat.le_refl _) _
  have HWB := Lib.hid (WB.start (w0 := w) (w := W) (bx := bx) (ho1.lo (by simp)) (ho2.lo (by simp)) hne (hbw1.trans (hbW.mono (by omega))) hbW hbx (by rw [hW]; simp) (by rw [hW, hbx]; go_simp) (by rw [hW, hbx]; go_simp) (by rw [hW, hbx]; go_simp) (by rw [hW, hbx]; go_simp))
  have hbb : w.heap.size + 2 ≤ bx := by omega
  have zW := hbW.size
  (try simp at zW)
  have yWa : w.heap.size < W.heap.size := (by omega)
  have yWb : w.heap.size + 1 < W.heap.size := (by omega)
  have kW_0 := bel_keeps hbW (b := w.heap.size) (o := 0) (v := .slice a1 gs.length c1) (by first | (go_simp; done) | assumption)
  have kW_1 := bel_keeps hbW (b := w.heap.size) (o := 1) (v := .slice a2 os.length c2) (by first | (go_simp; done) | assumption)
  have kW_2 := bel_keeps hbW (b := w.heap.size + 1) (o := 0) (v := .slice none 0 0) (by first | (go_simp; done) | assumption)
  have kW_3 := bel_keeps hbW (b := w.heap.size + 1) (o := 1) (v := .slice none 0 0) (by first | (go_simp; done) | assumption)
  have fW_0 := bel_free hbW (b := w.heap.size + 1) (o := 0) (by first | omega | (simp; done) | (simp; omega)) (by first | (go_simp; done) | assumption)
  have fW_1 := bel_free hbW (b := w.heap.size + 1) (o := 1) (by first | omega | (simp; done) | (simp; omega)) (by first | (go_simp; done) | assumption)
  clear k1_0 k1_1 k1_2 k1_3 f1_0 f1_1
  clear hW hbx hbW ho1 ho2 hne hb1 hbw1
  have hlW := HWB.out.l
  refine (l14Ask_any gs os _ _ _ _ _ hm hm2 (HR.out.below hlW) (HR2.out.below hlW) xs nx _ _ hlx hmx (HRx.out.below hlW) ys ny _ _ hly hmy (HRy.out.below hlW)).mono ?_
  rintro e w2 ⟨rfl, hb2⟩
  have HWB2 := Lib.hid (HWB.out.below hb2)
  have z2 := hb2.size
  (try simp at z2)
  have y2a : w.heap.size < w2.heap.size := (by omega)
  have y2b : w.heap.size + 1 < w2.heap.size := (by omega)
  have k2_0 := bel_keeps hb2 (b := w.heap.size) (o := 0) (v := .slice a1 gs.length c1) (by first | (go_simp; done) | assumption)
  have k2_1 := bel_keeps hb2 (b := w.heap.size) (o := 1) (v := .slice a2 os.length c2) (by first | (go_simp; done) | assumption)
  have k2_2 := bel_keeps hb2 (b := w.heap.size + 1) (o := 0) (v := .slice none 0 0) (by first | (go_simp; done) | assumption)
  have k2_3 := bel_keeps hb2 (b := w.heap.size + 1) (o := 1) (v := .slice none 0 0) (by first | (go_simp; done) | assumption)
  have f2_0 := bel_free hb2 (b := w.heap.size + 1) (o := 0) (by first | omega | (simp; done) | (simp; omega)) (by first | (go_simp; done) | assumption)
  have f2_1 := bel_free hb2 (b := w.heap.size + 1) (o := 1) (by first | omega | (simp; done) | (simp; omega)) (by first | (go_simp; done) | assumption)
  clear kW_0 kW_1 kW_2 kW_3 fW_0 fW_1
  clear hb2
  cases hq : askB gs os xs ys
  · have e1 : PG = gs := by rw [HPG.out, show (askB gs os xs ys) = false from hq]; rfl
    have e2 : PW = [] := by rw [HPW.out, show (askB gs os xs ys) = false from hq]; rfl
    have HE1 := Lib.hid e1
    have HE2 := Lib.hid e2
    clear e1 e2
    obtain ⟨adR, capR, hcR, _, _⟩ := HWB2.out.b.row
    have hc1R := HWB2.out.b.snd
    have hlR := HWB2.out.l
    go_wp2_with fail
    refine bodyPost_ret (v := .tuple #[.agg #[.slice adR gs.length capR, .slice (some ⟨g2, 0, none⟩) os.length d2], .slice (some ⟨w2.heap.size, 0, none⟩) 0 0]) (by simp [results, Try.results27, go_sem, *]) rfl ?_
    rw [HE1.out, HE2.out]
    exact HWB2.out.postW hcR rfl (own_last _ _ _ _ w2.heap.size (by simp [World.setCell]) (Nat.le_refl _)) (fun y e => by obtain rfl := Option.some.inj e; exact ⟨fun e => by have := HWB2.out.b.gblk_lt e; simp at this, by have := HWB2.out.f.1; show w2.heap.size ≠ g2; omega⟩) (by omega) (fun b hb => (by (repeat (first | with_reducible exact Kp.refl _ _ | (with_reducible refine Kp.rng ?_ (by assumption) ?_) | (with_reducible refine Kp.below ?_ (by assumption)) | (with_reducible refine Kp.grown ?_ (by assumption) ?_) | (with_reducible refine Kp.alloc ?_ _) | (with_reducible refine Kp.drew ?_) | (with_reducible refine Kp.drewN ?_ _) | (with_reducible refine Kp.setCell ?_ _ ?_))) <;> (first | omega | (simp; done) | (simp; omega)))) (by (repeat (first | with_reducible exact Below.refl _ _ | (with_reducible refine bel_next ?_ ?_ (by assumption)) | (with_reducible refine Below.alloc ?_ ?_ _) | (with_reducible refine Below.drew ?_) | (with_reducible refine below_drewN ?_ _) | (with_reducible refine Below.setCell ?_ ?_ _))) <;> (first | omega | (simp; done) | (simp; omega) | (simp [World.setCell]; omega)))
  · have e1 : PG = (sumP xs ys 0 3 gs).1 := by rw [HPG.out, show (askB gs os xs ys) = true from hq]; rfl
    have e2 : PW = (sumP xs ys 0 3 gs).2 := by rw [HPW.out, show (askB gs os xs ys) = true from hq]; rfl
    have HE1 := Lib.hid e1
    have HE2 := Lib.hid e2
    clear e1 e2
    obtain ⟨hx4, hy4, h59⟩ := askB_len hq
    rw [hlx] at hx4
    rw [hly] at hy4
    subst hx4; subst hy4
    have frx3 := HWB2.out.fra HRx.out (by omega)
    have rdx3 := HRx.out.below HWB2.out.l
    have fry3 := HWB2.out.fra HRy.out (by omega)
    have rdy3 := HRy.out.below HWB2.out.l
    go_wp2_with fail
    refine (l14Sum3 gs 0 _ _ bx _ HWB2.out.b (by omega) xs ax cx hlx rdx3 frx3 ys ay cy hly rdy3 fry3).mono ?_
    rintro e w3 ⟨h3, c3, rfl, hs3⟩
    have HWB3 := Lib.hid (HWB2.out.on hs3.b hs3.r hs3.l)
    have k3_0 := Fr.cell hs3.r (HWB2.out.b.frn_lo (by omega)) k2_0
    have k3_1 := Fr.cell hs3.r (HWB2.out.b.frn_lo (by omega)) k2_1
    have k3_2 := Fr.cell hs3.r (HWB2.out.b.frn_lo (by omega)) k2_2
    have k3_3 := Fr.cell hs3.r (HWB2.out.b.frn_lo (by omega)) k2_3
    have f3_0 := Fr.free hs3.r (HWB2.out.b.frn_lo (by omega)) f2_0
    have f3_1 := Fr.free hs3.r (HWB2.out.b.frn_lo (by omega)) f2_1
    clear k2_0 k2_1 k2_2 k2_3 f2_0 f2_1
    have HS3 := Lib.hid hs3
    clear hs3 frx3 rdx3 fry3 rdy3
    obtain ⟨adR, capR, hcR, _, _⟩ := HWB3.out.b.row
    have hc1R := HWB3.out.b.snd
    have hlR := HWB3.out.l
    go_wp2_with fail
    refine bodyPost_ret (v := .tuple #[.agg #[.slice adR (sumP xs ys 0 3 gs).1.length capR, .slice (some ⟨g2, 0, none⟩) os.length d2], .slice (some ⟨h3, 0, none⟩) 4 c3]) (by simp [results, Try.results27, go_sem, *]) rfl ?_
    rw [HE1.out, HE2.out]
    exact HWB3.out.postW hcR (by have := HS3.out.o.len; simpa using this.symm) (by have h1 := HS3.out.ge; have h2 := HWB2.out.b.le; exact HS3.out.o.later (by (repeat (first | with_reducible exact Kp.refl _ _ | (with_reducible refine Kp.rng ?_ (by assumption) ?_) | (with_reducible refine Kp.below ?_ (by assumption)) | (with_reducible refine Kp.grown ?_ (by assumption) ?_) | (with_reducible refine Kp.alloc ?_ _) | (with_reducible refine Kp.drew ?_) | (with_reducible refine Kp.drewN ?_ _) | (with_reducible refine Kp.setCell ?_ _ ?_))) <;> (first | omega | (simp; done) | (simp; omega)))) (fun y e => by obtain rfl := Option.some.inj e; exact ⟨HS3.out.f.2.2, by have h1 := HS3.out.ge; have h2 := HWB2.out.f.1; show h3 ≠ g2; omega⟩) (by have := HWB2.out.b.le; omega) (fun b hb => (by (repeat (first | with_reducible exact Kp.refl _ _ | (with_reducible refine Kp.rng ?_ (by assumption) ?_) | (with_reducible refine Kp.below ?_ (by assumption)) | (with_reducible refine Kp.grown ?_ (by assumption) ?_) | (with_reducible refine Kp.alloc ?_ _) | (with_reducible refine Kp.drew ?_) | (with_reducible refine Kp.drewN ?_ _) | (with_reducible refine Kp.setCell ?_ _ ?_))) <;> (first | omega | (simp; done) | (simp; omega)))) (by (repeat (first | with_reducible exact Below.refl _ _ | (with_reducible refine bel_next ?_ ?_ (by assumption)) | (with_reducible refine Below.alloc ?_ ?_ _) | (with_reducible refine Below.drew ?_) | (with_reducible refine below_drewN ?_ _) | (with_reducible refine Below.setCell ?_ ?_ _))) <;> (first | omega | (simp; done) | (simp; omega)))
set_option maxRecDepth 20000 in
set_option maxHeartbeats 8000000 in
theorem sWordSub_any (gs : List Gt) (os : List Int) (a1 a2 : Option Addr) (c1 c2 : Nat) (w : World) (hm : gs.length ≤ 1048576) (hm2 : os.length ≤ 1048576) (hr : RdC w a1 (gtCells gs)) (hr2 : RdC w a2 (I64 os))  (xs : List Int) (nx : Nat) (ax : Option Addr) (cx : Nat) (hlx : xs.length = nx) (hmx : nx ≤ 1048576) (hrx : RdC w ax (I64 xs)) (ys : List Int) (ny : Nat) (ay : Option Addr) (cy : Nat) (hly : ys.length = ny) (hmy : ny ≤ 1048576) (hry : RdC w ay (I64 ys))  :
    Calls Try.prog 31 #[.agg #[.slice a1 gs.length c1, .slice a2 os.length c2], .slice ax nx cx, .slice ay ny cy] w fun e w' => PostW w w' e (wP (askB gs os xs ys) (sumP xs (notsP ys gs).2 1 3 (notsP ys gs).1) gs []).1 os (wP (askB gs os xs ys) (sumP xs (notsP ys gs).2 1 3 (notsP ys gs).1) gs []).2 := by
  have HR := Lib.hid hr
  have HR2 := Lib.hid hr2
  have HRx := Lib.hid hrx
  have HRy := Lib.hid hry
  clear hr hr2 hrx hry
  have nH : w.heap.size ≠ w.heap.size + 1 := by omega
  obtain ⟨PG, hPG⟩ : ∃ z, z = (wP (askB gs os xs ys) (sumP xs (notsP ys gs).2 1 3 (notsP ys gs).1) gs []).1 := ⟨_, rfl⟩
  obtain ⟨PW, hPW⟩ : ∃ z, z = (wP (askB gs os xs ys) (sumP xs (notsP ys gs).2 1 3 (notsP ys gs).1) gs []).2 := ⟨_, rfl⟩
  rw [← hPG, ← hPW]
  have HPG := Lib.hid hPG
  have HPW := Lib.hid hPW
  clear hPG hPW
  go_enter Try.func31, Try.ntmps31
  go_wp2_with fail
  refine (l14Copy_any gs os _ _ _ _ _ hm hm2 (HR.out.below (by (repeat (first | with_reducible exact Below.refl _ _ | (with_reducible refine bel_next ?_ ?_ (by assumption)) | (with_reducible refine Below.alloc ?_ ?_ _) | (with_reducible refine Below.drew ?_) | (with_reducible refine below_drewN ?_ _) | (with_reducible refine Below.setCell ?_ ?_ _))) <;> (first | omega | (simp; done) | (simp; omega)))) (HR2.out.below (by (repeat (first | with_reducible exact Below.refl _ _ | (with_reducible refine bel_next ?_ ?_ (by assumption)) | (with_reducible refine Below.alloc ?_ ?_ _) | (with_reducible refine Below.drew ?_) | (with_reducible refine below_drewN ?_ _) | (with_reducible refine Below.setCell ?_ ?_ _))) <;> (first | omega | (simp; done) | (simp; omega))))).mono ?_
  rintro e w1 ⟨g1, d1, g2, d2, rfl, ho1, ho2, hne, hb1⟩
  have z1 := hb1.size
  (try simp at z1)
  have y1a : w.heap.size < w1.heap.size := (by omega)
  have y1b : w.heap.size + 1 < w1.heap.size := (by omega)
  have k1_0 := bel_keeps hb1 (b := w.heap.size) (o := 0) (v := .slice a1 gs.length c1) (by first | (go_simp; done) | assumption)
  have k1_1 := bel_keeps hb1 (b := w.heap.size) (o := 1) (v := .slice a2 os.length c2) (by first | (go_simp; done) | assumption)
  have k1_2 := bel_keeps hb1 (b := w.heap.size + 1) (o := 0) (v := .slice none 0 0) (by first | (go_simp; done) | assumption)
  have k1_3 := bel_keeps hb1 (b := w.heap.size + 1) (o := 1) (v := .slice none 0 0) (by first | (go_simp; done) | assumption)
  have f1_0 := bel_free hb1 (b := w.heap.size + 1) (o := 0) (by first | omega | (simp; done) | (simp; omega)) (by first | (go_simp; done) | assumption)
  have f1_1 := bel_free hb1 (b := w.heap.size + 1) (o := 1) (by first | omega | (simp; done) | (simp; omega)) (by first | (go_simp; done) | assumption)
  have hbw1 : Below w.heap.size w w1 := (by (repeat (first | with_reducible exact Below.refl _ _ | (with_reducible refine bel_next ?_ ?_ (by assumption)) | (with_reducible refine Below.alloc ?_ ?_ _) | (with_reducible refine Below.drew ?_) | (with_reducible refine below_drewN ?_ _) | (with_reducible refine Below.setCell ?_ ?_ _))) <;> (first | omega | (simp; done) | (simp; omega)))
  go_wp2_with fail
  obtain ⟨W, hW⟩ : ∃ W, W = w1.alloc (.cells #[.slice (some ⟨g1, 0, none⟩) gs.length d1, .slice (some ⟨g2, 0, none⟩) os.length d2] 29) := ⟨_, rfl⟩
  obtain ⟨bx, hbx⟩ : ∃ b, b = w1.heap.size := ⟨_, rfl⟩
  rw [← hW, ← hbx]
  have hbW : Below w1.heap.size w1 W := by rw [hW]; exact (Below.refl _ _).alloc (Nat.le_refl _) _
  have HWB := Lib.hid (WB.start (w0 := w) (w := W) (bx := bx) (ho1.lo (by simp)) (ho2.lo (by simp)) hne (hbw1.trans (hbW.mono (by omega))) hbW hbx (by rw [hW]; simp) (by rw [hW, hbx]; go_simp) (by rw [hW, hbx]; go_simp) (by rw [hW, hbx]; go_simp) (by rw [hW, hbx]; go_simp))
  have hbb : w.heap.size + 2 ≤ bx := by omega
  have zW := hbW.size
  (try simp at zW)
  have yWa : w.heap.size < W.heap.size := (by omega)
  have yWb : w.heap.size + 1 < W.heap.size := (by omega)
  have kW_0 := bel_keeps hbW (b := w.heap.size) (o := 0) (v := .slice a1 gs.length c1) (by first | (go_simp; done) | assumption)
  have kW_1 := bel_keeps hbW (b := w.heap.size) (o := 1) (v := .slice a2 os.length c2) (by first | (go_simp; done) | assumption)
  have kW_2 := bel_keeps hbW (b := w.heap.size + 1) (o := 0) (v := .slice none 0 0) (by first | (go_simp; done) | assumption)
  have kW_3 := bel_keeps hbW (b := w.heap.size + 1) (o := 1) (v := .slice none 0 0) (by first | (go_simp; done) | assumption)
  have fW_0 := bel_free hbW (b := w.heap.size + 1) (o := 0) (by first | omega | (simp; done) | (simp; omega)) (by first | (go_simp; done) | assumption)
  have fW_1 := bel_free hbW (b := w.heap.size + 1) (o := 1) (by first | omega | (simp; done) | (simp; omega)) (by first | (go_simp; done) | assumption)
  clear k1_0 k1_1 k1_2 k1_3 f1_0 f1_1
  clear hW hbx hbW ho1 ho2 hne hb1 hbw1
  have hlW := HWB.out.l
  refine (l14Ask_any gs os _ _ _ _ _ hm hm2 (HR.out.below hlW) (HR2.out.below hlW) xs nx _ _ hlx hmx (HRx.out.below hlW) ys ny _ _ hly hmy (HRy.out.below hlW)).mono ?_
  rintro e w2 ⟨rfl, hb2⟩
  have HWB2 := Lib.hid (HWB.out.below hb2)
  have z2 := hb2.size
  (try simp at z2)
  have y2a : w.heap.size < w2.heap.size := (by omega)
  have y2b : w.heap.size + 1 < w2.heap.size := (by omega)
  have k2_0 := bel_keeps hb2 (b := w.heap.size) (o := 0) (v := .slice a1 gs.length c1) (by first | (go_simp; done) | assumption)
  have k2_1 := bel_keeps hb2 (b := w.heap.size) (o := 1) (v := .slice a2 os.length c2) (by first | (go_simp; done) | assumption)
  have k2_2 := bel_keeps hb2 (b := w.heap.size + 1) (o := 0) (v := .slice none 0 0) (by first | (go_simp; done) | assumption)
  have k2_3 := bel_keeps hb2 (b := w.heap.size + 1) (o := 1) (v := .slice none 0 0) (by first | (go_simp; done) | assumption)
  have f2_0 := bel_free hb2 (b := w.heap.size + 1) (o := 0) (by first | omega | (simp; done) | (simp; omega)) (by first | (go_simp; done) | assumption)
  have f2_1 := bel_free hb2 (b := w.heap.size + 1) (o := 1) (by first | omega | (simp; done) | (simp; omega)) (by first | (go_simp; done) | assumption)
  clear kW_0 kW_1 kW_2 kW_3 fW_0 fW_1
  clear hb2
  cases hq : askB gs os xs ys
  · have e1 : PG = gs := by rw [HPG.out, show (askB gs os xs ys) = false from hq]; rfl
    have e2 : PW = [] := by rw [HPW.out, show (askB gs os xs ys) = false from hq]; rfl
    have HE1 := Lib.hid e1
    have HE2 := Lib.hid e2
    clear e1 e2
    obtain ⟨adR, capR, hcR, _, _⟩ := HWB2.out.b.row
    have hc1R := HWB2.out.b.snd
    have hlR := HWB2.out.l
    go_wp2_with fail
    refine bodyPost_ret (v := .tuple #[.agg #[.slice adR gs.length capR, .slice (some ⟨g2, 0, none⟩) os.length d2], .slice (some ⟨w2.heap.size, 0, none⟩) 0 0]) (by simp [results, Try.results31, go_sem, *]) rfl ?_
    rw [HE1.out, HE2.out]
    exact HWB2.out.postW hcR rfl (own_last _ _ _ _ w2.heap.size (by simp [World.setCell]) (Nat.le_refl _)) (fun y e => by obtain rfl := Option.some.inj e; exact ⟨fun e => by have := HWB2.out.b.gblk_lt e; simp at this, by have := HWB2.out.f.1; show w2.heap.size ≠ g2; omega⟩) (by omega) (fun b hb => (by (repeat (first | with_reducible exact Kp.refl _ _ | (with_reducible refine Kp.rng ?_ (by assumption) ?_) | (with_reducible refine Kp.below ?_ (by assumption)) | (with_reducible refine Kp.grown ?_ (by assumption) ?_) | (with_reducible refine Kp.alloc ?_ _) | (with_reducible refine Kp.drew ?_) | (with_reducible refine Kp.drewN ?_ _) | (with_reducible refine Kp.setCell ?_ _ ?_))) <;> (first | omega | (simp; done) | (simp; omega)))) (by (repeat (first | with_reducible exact Below.refl _ _ | (with_reducible refine bel_next ?_ ?_ (by assumption)) | (with_reducible refine Below.alloc ?_ ?_ _) | (with_reducible refine Below.drew ?_) | (with_reducible refine below_drewN ?_ _) | (with_reducible refine Below.setCell ?_ ?_ _))) <;> (first | omega | (simp; done) | (simp; omega) | (simp [World.setCell]; omega)))
  · have e1 : PG = (sumP xs (notsP ys gs).2 1 3 (notsP ys gs).1).1 := by rw [HPG.out, show (askB gs os xs ys) = true from hq]; rfl
    have e2 : PW = (sumP xs (notsP ys gs).2 1 3 (notsP ys gs).1).2 := by rw [HPW.out, show (askB gs os xs ys) = true from hq]; rfl
    have HE1 := Lib.hid e1
    have HE2 := Lib.hid e2
    clear e1 e2
    obtain ⟨hx4, hy4, h59⟩ := askB_len hq
    rw [hlx] at hx4
    rw [hly] at hy4
    subst hx4; subst hy4
    have frx3 := HWB2.out.fra HRx.out (by omega)
    have rdx3 := HRx.out.below HWB2.out.l
    have fry3 := HWB2.out.fra HRy.out (by omega)
    have rdy3 := HRy.out.below HWB2.out.l
    go_wp2_with fail
    refine (l14Nots_any gs _ _ bx _ HWB2.out.b (by omega) ys ay cy hly rdy3 fry3).mono ?_
    rintro e w3 ⟨h3, c3, rfl, hs3⟩
    have HWB3 := Lib.hid (HWB2.out.on hs3.b hs3.r hs3.l)
    have k3_0 := Fr.cell hs3.r (HWB2.out.b.frn_lo (by omega)) k2_0
    have k3_1 := Fr.cell hs3.r (HWB2.out.b.frn_lo (by omega)) k2_1
    have k3_2 := Fr.cell hs3.r (HWB2.out.b.frn_lo (by omega)) k2_2
    have k3_3 := Fr.cell hs3.r (HWB2.out.b.frn_lo (by omega)) k2_3
    have f3_0 := Fr.free hs3.r (HWB2.out.b.frn_lo (by omega)) f2_0
    have f3_1 := Fr.free hs3.r (HWB2.out.b.frn_lo (by omega)) f2_1
    clear k2_0 k2_1 k2_2 k2_3 f2_0 f2_1
    have HS3 := Lib.hid hs3
    clear hs3 frx3 rdx3 fry3 rdy3
    have frx4 := HWB3.out.fra HRx.out (by omega)
    have rdx4 := HRx.out.below HWB3.out.l
    have fry4 := HWB3.out.fra HRy.out (by omega)
    have rdy4 := HRy.out.below HWB3.out.l
    go_wp2_with fail
    refine (l14Sum3 (notsP ys gs).1 1 _ _ bx _ HWB3.out.b (by have := (notsP_len ys gs).1; omega) xs ax cx hlx rdx4 frx4 (notsP ys gs).2 (some ⟨h3, 0, none⟩) c3 (notsP_len ys gs).2 HS3.out.o.rd (fun b off e => by cases e; exact HS3.out.f)).mono ?_
    rintro e w4 ⟨h4, c4, rfl, hs4⟩
    have HWB4 := Lib.hid (HWB3.out.on hs4.b hs4.r hs4.l)
    have k4_0 := Fr.cell hs4.r (HWB3.out.b.frn_lo (by omega)) k3_0
    have k4_1 := Fr.cell hs4.r (HWB3.out.b.frn_lo (by omega)) k3_1
    have k4_2 := Fr.cell hs4.r (HWB3.out.b.frn_lo (by omega)) k3_2
    have k4_3 := Fr.cell hs4.r (HWB3.out.b.frn_lo (by omega)) k3_3
    have f4_0 := Fr.free hs4.r (HWB3.out.b.frn_lo (by omega)) f3_0
    have f4_1 := Fr.free hs4.r (HWB3.out.b.frn_lo (by omega)) f3_1
    clear k3_0 k3_1 k3_2 k3_3 f3_0 f3_1
    have HS4 := Lib.hid hs4
    clear hs4 frx4 rdx4 fry4 rdy4
    obtain ⟨adR, capR, hcR, _, _⟩ := HWB4.out.b.row
    have hc1R := HWB4.out.b.snd
    have hlR := HWB4.out.l
    go_wp2_with fail
    refine bodyPost_ret (v := .tuple #[.agg #[.slice adR (sumP xs (notsP ys gs).2 1 3 (notsP ys gs).1).1.length capR, .slice (some ⟨g2, 0, none⟩) os.length d2], .slice (some ⟨h4, 0, none⟩) 4 c4]) (by simp [results, Try.results31, go_sem, *]) rfl ?_
    rw [HE1.out, HE2.out]
    exact HWB4.out.postW hcR (by have := HS4.out.o.len; simpa using this.symm) (by have h1 := HS4.out.ge; have h2 := HWB3.out.b.le; exact HS4.out.o.later (by (repeat (first | with_reducible exact Kp.refl _ _ | (with_reducible refine Kp.rng ?_ (by assumption) ?_) | (with_reducible refine Kp.below ?_ (by assumption)) | (with_reducible refine Kp.grown ?_ (by assumption) ?_) | (with_reducible refine Kp.alloc ?_ _) | (with_reducible refine Kp.drew ?_) | (with_reducible refine Kp.drewN ?_ _) | (with_reducible refine Kp.setCell ?_ _ ?_))) <;> (first | omega | (simp; done) | (simp; omega)))) (fun y e => by obtain rfl := Option.some.inj e; exact ⟨HS4.out.f.2.2, by have h1 := HS4.out.ge; have h2 := HWB3.out.f.1; show h4 ≠ g2; omega⟩) (by have := HWB3.out.b.le; omega) (fun b hb => (by (repeat (first | with_reducible exact Kp.refl _ _ | (with_reducible refine Kp.rng ?_ (by assumption) ?_) | (with_reducible refine Kp.below ?_ (by assumption)) | (with_reducible refine Kp.grown ?_ (by assumption) ?_) | (with_reducible refine Kp.alloc ?_ _) | (with_reducible refine Kp.drew ?_) | (with_reducible refine Kp.drewN ?_ _) | (with_reducible refine Kp.setCell ?_ _ ?_))) <;> (first | omega | (simp; done) | (simp; omega)))) (by (repeat (first | with_reducible exact Below.refl _ _ | (with_reducible refine bel_next ?_ ?_ (by assumption)) | (with_reducible refine Below.alloc ?_ ?_ _) | (with_reducible refine Below.drew ?_) | (with_reducible refine below_drewN ?_ _) | (with_reducible refine Below.setCell ?_ ?_ _))) <;> (first | omega | (simp; done) | (simp; omega)))
set_option maxRecDepth 20000 in
set_option maxHeartbeats 8000000 in
theorem sWordLess_any (gs : List Gt) (os : List Int) (a1 a2 : Option Addr) (c1 c2 : Nat) (w : World) (hm : gs.length ≤ 1048576) (hm2 : os.length ≤ 1048576) (hr : RdC w a1 (gtCells gs)) (hr2 : RdC w a2 (I64 os))  (xs : List Int) (nx : Nat) (ax : Option Addr) (cx : Nat) (hlx : xs.length = nx) (hmx : nx ≤ 1048576) (hrx : RdC w ax (I64 xs)) (ys : List Int) (ny : Nat) (ay : Option Addr) (cy : Nat) (hly : ys.length = ny) (hmy : ny ≤ 1048576) (hry : RdC w ay (I64 ys))  :
    Calls Try.prog 29 #[.agg #[.slice a1 gs.length c1, .slice a2 os.length c2], .slice ax nx cx, .slice ay ny cy] w fun e w' => PostI w w' e (wP (askB gs os xs ys) (lessP xs ys gs) gs (-1)).1 os (wP (askB gs os xs ys) (lessP xs ys gs) gs (-1)).2 := by
  have HR := Lib.hid hr
  have HR2 := Lib.hid hr2
  have HRx := Lib.hid hrx
  have HRy := Lib.hid hry
  clear hr hr2 hrx hry
  have nH : w.heap.size ≠ w.heap.size + 1 := by omega
  obtain ⟨PG, hPG⟩ : ∃ z, z = (wP (askB gs os xs ys) (lessP xs ys gs) gs (-1)).1 := ⟨_, rfl⟩
  obtain ⟨PW, hPW⟩ : ∃ z, z = (wP (askB gs os xs ys) (lessP xs ys gs) gs (-1)).2 := ⟨_, rfl⟩
  rw [← hPG, ← hPW]
  have HPG := Lib.hid hPG
  have HPW := Lib.hid hPW
  clear hPG hPW
  go_enter Try.func29, Try.ntmps29
  go_wp2_with fail
  refine (l14Copy_any gs os _ _ _ _ _ hm hm2 (HR.out.below (by (repeat (first | with_reducible exact Below.refl _ _ | (with_reducible refine bel_next ?_ ?_ (by assumption)) | (with_reducible refine Below.alloc ?_ ?_ _) | (with_reducible refine Below.drew ?_) | (with_reducible refine below_drewN ?_ _) | (with_reducible refine Below.setCell ?_ ?_ _))) <;> (first | omega | (simp; done) | (simp; omega)))) (HR2.out.below (by (repeat (first | with_reducible exact Below.refl _ _ | (with_reducible refine bel_next ?_ ?_ (by assumption)) | (with_reducible refine Below.alloc ?_ ?_ _) | (with_reducible refine Below.drew ?_) | (with_reducible refine below_drewN ?_ _) | (with_reducible refine Below.setCell ?_ ?_ _))) <;> (first | omega | (simp; done) | (simp; omega))))).mono ?_
  rintro e w1 ⟨g1, d1, g2, d2, rfl, ho1, ho2, hne, hb1⟩
  have z1 := hb1.size
  (try simp at z1)
  have y1a : w.heap.size < w1.heap.size := (by omega)
  have y1b : w.heap.size + 1 < w1.heap.size := (by omega)
  have k1_0 := bel_keeps hb1 (b := w.heap.size) (o := 0) (v := .slice a1 gs.length c1) (by first | (go_simp; done) | assumption)
  have k1_1 := bel_keeps hb1 (b := w.heap.size) (o := 1) (v := .slice a2 os.length c2) (by first | (go_simp; done) | assumption)
  have k1_2 := bel_keeps hb1 (b := w.heap.size + 1) (o := 0) (v := .slice none 0 0) (by first | (go_simp; done) | assumption)
  have k1_3 := bel_keeps hb1 (b := w.heap.size + 1) (o := 1) (v := .slice none 0 0) (by first | (go_simp; done) | assumption)
  have f1_0 := bel_free hb1 (b := w.heap.size + 1) (o := 0) (by first | omega | (simp; done) | (simp; omega)) (by first | (go_simp; done) | assumption)
  have f1_1 := bel_free hb1 (b := w.heap.size + 1) (o := 1) (by first | omega | (simp; done) | (simp; omega)) (by first | (go_simp; done) | assumption)
  have hbw1 : Below w.heap.size w w1 := (by (repeat (first | with_reducible exact Below.refl _ _ | (with_reducible refine bel_next ?_ ?_ (by assumption)) | (with_reducible refine Below.alloc ?_ ?_ _) | (with_reducible refine Below.drew ?_) | (with_reducible refine below_drewN ?_ _) | (with_reducible refine Below.setCell ?_ ?_ _))) <;> (first | omega | (simp; done) | (simp; omega)))
  go_wp2_with fail
  obtain ⟨W, hW⟩ : ∃ W, W = w1.alloc (.cells #[.slice (some ⟨g1, 0, none⟩) gs.length d1, .slice (some ⟨g2, 0, none⟩) os.length d2] 29) := ⟨_, rfl⟩
  obtain ⟨bx, hbx⟩ : ∃ b, b = w1.heap.size := ⟨_, rfl⟩
  rw [← hW, ← hbx]
  have hbW : Below w1.heap.size w1 W := by rw [hW]; exact (Below.refl _ _).alloc (Nat.le_refl _) _
  have HWB := Lib.hid (WB.start (w0 := w) (w := W) (bx := bx) (ho1.lo (by simp)) (ho2.lo (by simp)) hne (hbw1.trans (hbW.mono (by omega))) hbW hbx (by rw [hW]; simp) (by rw [hW, hbx]; go_simp) (by rw [hW, hbx]; go_simp) (by rw [hW, hbx]; go_simp) (by rw [hW, hbx]; go_simp))
  have hbb : w.heap.size + 2 ≤ bx := by omega
  have zW := hbW.size
  (try simp at zW)
  have yWa : w.heap.size < W.heap.size := (by omega)
  have yWb : w.heap.size + 1 < W.heap.size := (by omega)
  have kW_0 := bel_keeps hbW (b := w.heap.size) (o := 0) (v := .slice a1 gs.length c1) (by first | (go_simp; done) | assumption)
  have kW_1 := bel_keeps hbW (b := w.heap.size) (o := 1) (v := .slice a2 os.length c2) (by first | (go_simp; done) | assumption)
  have kW_2 := bel_keeps hbW (b := w.heap.size + 1) (o := 0) (v := .slice none 0 0) (by first | (go_simp; done) | assumption)
  have kW_3 := bel_keeps hbW (b := w.heap.size + 1) (o := 1) (v := .slice none 0 0) (by first | (go_simp; done) | assumption)
  have fW_0 := bel_free hbW (b := w.heap.size + 1) (o := 0) (by first | omega | (simp; done) | (simp; omega)) (by first | (go_simp; done) | assumption)
  have fW_1 := bel_free hbW (b := w.heap.size + 1) (o := 1) (by first | omega | (simp; done) | (simp; omega)) (by first | (go_simp; done) | assumption)
  clear k1_0 k1_1 k1_2 k1_3 f1_0 f1_1
  clear hW hbx hbW ho1 ho2 hne hb1 hbw1
  have hlW := HWB.out.l
  refine (l14Ask_any gs os _ _ _ _ _ hm hm2 (HR.out.below hlW) (HR2.out.below hlW) xs nx _ _ hlx hmx (HRx.out.below hlW) ys ny _ _ hly hmy (HRy.out.below hlW)).mono ?_
  rintro e w2 ⟨rfl, hb2⟩
  have HWB2 := Lib.hid (HWB.out.below hb2)
  have z2 := hb2.size
  (try simp at z2)
  have y2a : w.heap.size < w2.heap.size := (by omega)
  have y2b : w.heap.size + 1 < w2.heap.size := (by omega)
  have k2_0 := bel_keeps hb2 (b := w.heap.size) (o := 0) (v := .slice a1 gs.length c1) (by first | (go_simp; done) | assumption)
  have k2_1 := bel_keeps hb2 (b := w.heap.size) (o := 1) (v := .slice a2 os.length c2) (by first | (go_simp; done) | assumption)
  have k2_2 := bel_keeps hb2 (b := w.heap.size + 1) (o := 0) (v := .slice none 0 0) (by first | (go_simp; done) | assumption)
  have k2_3 := bel_keeps hb2 (b := w.heap.size + 1) (o := 1) (v := .slice none 0 0) (by first | (go_simp; done) | assumption)
  have f2_0 := bel_free hb2 (b := w.heap.size + 1) (o := 0) (by first | omega | (simp; done) | (simp; omega)) (by first | (go_simp; done) | assumption)
  have f2_1 := bel_free hb2 (b := w.heap.size + 1) (o := 1) (by first | omega | (simp; done) | (simp; omega)) (by first | (go_simp; done) | assumption)
  clear kW_0 kW_1 kW_2 kW_3 fW_0 fW_1
  clear hb2
  cases hq : askB gs os xs ys
  · have e1 : PG = gs := by rw [HPG.out, show (askB gs os xs ys) = false from hq]; rfl
    have e2 : PW = (-1) := by rw [HPW.out, show (askB gs os xs ys) = false from hq]; rfl
    have HE1 := Lib.hid e1
    have HE2 := Lib.hid e2
    clear e1 e2
    obtain ⟨adR, capR, hcR, _, _⟩ := HWB2.out.b.row
    have hc1R := HWB2.out.b.snd
    have hlR := HWB2.out.l
    go_wp2_with fail
    refine bodyPost_ret (v := .tuple #[.agg #[.slice adR gs.length capR, .slice (some ⟨g2, 0, none⟩) os.length d2], .int .i64 (-1)]) (by simp [results, Try.results29, go_sem, *]) rfl ?_
    rw [HE1.out, HE2.out]
    exact HWB2.out.postI hcR (fun b hb => (by (repeat (first | with_reducible exact Kp.refl _ _ | (with_reducible refine Kp.rng ?_ (by assumption) ?_) | (with_reducible refine Kp.below ?_ (by assumption)) | (with_reducible refine Kp.grown ?_ (by assumption) ?_) | (with_reducible refine Kp.alloc ?_ _) | (with_reducible refine Kp.drew ?_) | (with_reducible refine Kp.drewN ?_ _) | (with_reducible refine Kp.setCell ?_ _ ?_))) <;> (first | omega | (simp; done) | (simp; omega)))) (by (repeat (first | with_reducible exact Below.refl _ _ | (with_reducible refine bel_next ?_ ?_ (by assumption)) | (with_reducible refine Below.alloc ?_ ?_ _) | (with_reducible refine Below.drew ?_) | (with_reducible refine below_drewN ?_ _) | (with_reducible refine Below.setCell ?_ ?_ _))) <;> (first | omega | (simp; done) | (simp; omega)))
  · have e1 : PG = (lessP xs ys gs).1 := by rw [HPG.out, show (askB gs os xs ys) = true from hq]; rfl
    have e2 : PW = (lessP xs ys gs).2 := by rw [HPW.out, show (askB gs os xs ys) = true from hq]; rfl
    have HE1 := Lib.hid e1
    have HE2 := Lib.hid e2
    clear e1 e2
    obtain ⟨hx4, hy4, h59⟩ := askB_len hq
    rw [hlx] at hx4
    rw [hly] at hy4
    subst hx4; subst hy4
    have frx3 := HWB2.out.fra HRx.out (by omega)
    have rdx3 := HRx.out.below HWB2.out.l
    have fry3 := HWB2.out.fra HRy.out (by omega)
    have rdy3 := HRy.out.below HWB2.out.l
    go_wp2_with fail
    refine (l14Less_any gs _ _ bx _ HWB2.out.b (by omega) xs ax cx hlx rdx3 frx3 ys ay cy hly rdy3 fry3).mono ?_
    rintro e w3 ⟨rfl, hB3, hF3, hL3⟩
    have HWB3 := Lib.hid (HWB2.out.on hB3 hF3 hL3)
    have k3_0 := Fr.cell hF3 (HWB2.out.b.frn_lo (by omega)) k2_0
    have k3_1 := Fr.cell hF3 (HWB2.out.b.frn_lo (by omega)) k2_1
    have k3_2 := Fr.cell hF3 (HWB2.out.b.frn_lo (by omega)) k2_2
    have k3_3 := Fr.cell hF3 (HWB2.out.b.frn_lo (by omega)) k2_3
    have f3_0 := Fr.free hF3 (HWB2.out.b.frn_lo (by omega)) f2_0
    have f3_1 := Fr.free hF3 (HWB2.out.b.frn_lo (by omega)) f2_1
    clear k2_0 k2_1 k2_2 k2_3 f2_0 f2_1
    clear hB3 hF3 hL3 frx3 rdx3 fry3 rdy3
    obtain ⟨adR, capR, hcR, _, _⟩ := HWB3.out.b.row
    have hc1R := HWB3.out.b.snd
    have hlR := HWB3.out.l
    go_wp2_with fail
    refine bodyPost_ret (v := .tuple #[.agg #[.slice adR (lessP xs ys gs).1.length capR, .slice (some ⟨g2, 0, none⟩) os.length d2], .int .i64 (lessP xs ys gs).2]) (by simp [results, Try.results29, go_sem, *]) rfl ?_
    rw [HE1.out, HE2.out]
    exact HWB3.out.postI hcR (fun b hb => (by (repeat (first | with_reducible exact Kp.refl _ _ | (with_reducible refine Kp.rng ?_ (by assumption) ?_) | (with_reducible refine Kp.below ?_ (by assumption)) | (with_reducible refine Kp.grown ?_ (by assumption) ?_) | (with_reducible refine Kp.alloc ?_ _) | (with_reducible refine Kp.drew ?_) | (with_reducible refine Kp.drewN ?_ _) | (with_reducible refine Kp.setCell ?_ _ ?_))) <;> (first | omega | (simp; done) | (simp; omega)))) (by (repeat (first | with_reducible exact Below.refl _ _ | (with_reducible refine bel_next ?_ ?_ (by assumption)) | (with_reducible refine Below.alloc ?_ ?_ _) | (with_reducible refine Below.drew ?_) | (with_reducible refine below_drewN ?_ _) | (with_reducible refine Below.setCell ?_ ?_ _))) <;> (first | omega | (simp; done) | (simp; omega)))
set_option maxRecDepth 20000 in
set_option maxHeartbeats 8000000 in
theorem sWordEqual_any (gs : List Gt) (os : List Int) (a1 a2 : Option Addr) (c1 c2 : Nat) (w : World) (hm : gs.length ≤ 1048576) (hm2 : os.length ≤ 1048576) (hr : RdC w a1 (gtCells gs)) (hr2 : RdC w a2 (I64 os))  (xs : List Int) (nx : Nat) (ax : Option Addr) (cx : Nat) (hlx : xs.length = nx) (hmx : nx ≤ 1048576) (hrx : RdC w ax (I64 xs)) (ys : List Int) (ny : Nat) (ay : Option Addr) (cy : Nat) (hly : ys.length = ny) (hmy : ny ≤ 1048576) (hry : RdC w ay (I64 ys))  :
    Calls Try.prog 25 #[.agg #[.slice a1 gs.length c1, .slice a2 os.length c2], .slice ax nx cx, .slice ay ny cy] w fun e w' => PostI w w' e (wP (askB gs os xs ys) (equalP xs ys gs) gs (-1)).1 os (wP (askB gs os xs ys) (equalP xs ys gs) gs (-1)).2 := by
  have HR := Lib.hid hr
  have HR2 := Lib.hid hr2
  have HRx := Lib.hid hrx
  have HRy := Lib.hid hry
  clear hr hr2 hrx hry
  have nH : w.heap.size ≠ w.heap.size + 1 := by omega
  obtain ⟨PG, hPG⟩ : ∃ z, z = (wP (askB gs os xs ys) (equalP xs ys gs) gs (-1)).1 := ⟨_, rfl⟩
  obtain ⟨PW, hPW⟩ : ∃ z, z = (wP (askB gs os xs ys) (equalP xs ys gs) gs (-1)).2 := ⟨_, rfl⟩
  rw [← hPG, ← hPW]
  have HPG := Lib.hid hPG
  have HPW := Lib.hid hPW
  clear hPG hPW
  go_enter Try.func25, Try.ntmps25
  go_wp2_with fail
  refine (l14Copy_any gs os _ _ _ _ _ hm hm2 (HR.out.below (by (repeat (first | with_reducible exact Below.refl _ _ | (with_reducible refine bel_next ?_ ?_ (by assumption)) | (with_reducible refine Below.alloc ?_ ?_ _) | (with_reducible refine Below.drew ?_) | (with_reducible refine below_drewN ?_ _) | (with_reducible refine Below.setCell ?_ ?_ _))) <;> (first | omega | (simp; done) | (simp; omega)))) (HR2.out.below (by (repeat (first | with_reducible exact Below.refl _ _ | (with_reducible refine bel_next ?_ ?_ (by assumption)) | (with_reducible refine Below.alloc ?_ ?_ _) | (with_reducible refine Below.drew ?_) | (with_reducible refine below_drewN ?_ _) | (with_reducible refine Below.setCell ?_ ?_ _))) <;> (first | omega | (simp; done) | (simp; omega))))).mono ?_
  rintro e w1 ⟨g1, d1, g2, d2, rfl, ho1, ho2, hne, hb1⟩
  have z1 := hb1.size
  (try simp at z1)
  have y1a : w.heap.size < w1.heap.size := (by omega)
  have y1b : w.heap.size + 1 < w1.heap.size := (by omega)
  have k1_0 := bel_keeps hb1 (b := w.heap.size) (o := 0) (v := .slice a1 gs.length c1) (by first | (go_simp; done) | assumption)
  have k1_1 := bel_keeps hb1 (b := w.heap.size) (o := 1) (v := .slice a2 os.length c2) (by first | (go_simp; done) | assumption)
  have k1_2 := bel_keeps hb1 (b := w.heap.size + 1) (o := 0) (v := .slice none 0 0) (by first | (go_simp; done) | assumption)
  have k1_3 := bel_keeps hb1 (b := w.heap.size + 1) (o := 1) (v := .slice none 0 0) (by first | (go_simp; done) | assumption)
  have f1_0 := bel_free hb1 (b := w.heap.size + 1) (o := 0) (by first | omega | (simp; done) | (simp; omega)) (by first | (go_simp; done) | assumption)
  have f1_1 := bel_free hb1 (b := w.heap.size + 1) (o := 1) (by first | omega | (simp; done) | (simp; omega)) (by first | (go_simp; done) | assumption)
  have hbw1 : Below w.heap.size w w1 := (by (repeat (first | with_reducible exact Below.refl _ _ | (with_reducible refine bel_next ?_ ?_ (by assumption)) | (with_reducible refine Below.alloc ?_ ?_ _) | (with_reducible refine Below.drew ?_) | (with_reducible refine below_drewN ?_ _) | (with_reducible refine Below.setCell ?_ ?_ _))) <;> (first | omega | (simp; done) | (simp; omega)))
  go_wp2_with fail
  obtain ⟨W, hW⟩ : ∃ W, W = w1.alloc (.cells #[.slice (some ⟨g1, 0, none⟩) gs.length d1, .slice (some ⟨g2, 0, none⟩) os.length d2] 29) := ⟨_, rfl⟩
  obtain ⟨bx, hbx⟩ : ∃ b, b = w1.heap.size := ⟨_, rfl⟩
  rw [← hW, ← hbx]
  have hbW : Below w1.heap.size w1 W := by rw [hW]; exact (Below.refl _ _).alloc (Nat.le_refl _) _
  have HWB := Lib.hid (WB.start (w0 := w) (w := W) (bx := bx) (ho1.lo (by simp)) (ho2.lo (by simp)) hne (hbw1.trans (hbW.mono (by omega))) hbW hbx (by rw [hW]; simp) (by rw [hW, hbx]; go_simp) (by rw [hW, hbx]; go_simp) (by rw [hW, hbx]; go_simp) (by rw [hW, hbx]; go_simp))
  have hbb : w.heap.size + 2 ≤ bx := by omega
  have zW := hbW.size
  (try simp at zW)
  have yWa : w.heap.size < W.heap.size := (by omega)
  have yWb : w.heap.size + 1 < W.heap.size := (by omega)
  have kW_0 := bel_keeps hbW (b := w.heap.size) (o := 0) (v := .slice a1 gs.length c1) (by first | (go_simp; done) | assumption)
  have kW_1 := bel_keeps hbW (b := w.heap.size) (o := 1) (v := .slice a2 os.length c2) (by first | (go_simp; done) | assumption)
  have kW_2 := bel_keeps hbW (b := w.heap.size + 1) (o := 0) (v := .slice none 0 0) (by first | (go_simp; done) | assumption)
  have kW_3 := bel_keeps hbW (b := w.heap.size + 1) (o := 1) (v := .slice none 0 0) (by first | (go_simp; done) | assumption)
  have fW_0 := bel_free hbW (b := w.heap.size + 1) (o := 0) (by first | omega | (simp; done) | (simp; omega)) (by first | (go_simp; done) | assumption)
  have fW_1 := bel_free hbW (b := w.heap.size + 1) (o := 1) (by first | omega | (simp; done) | (simp; omega)) (by first | (go_simp; done) | assumption)
  clear k1_0 k1_1 k1_2 k1_3 f1_0 f1_1
  clear hW hbx hbW ho1 ho2 hne hb1 hbw1
  have hlW := HWB.out.l
  refine (l14Ask_any gs os _ _ _ _ _ hm hm2 (HR.out.below hlW) (HR2.out.below hlW) xs nx _ _ hlx hmx (HRx.out.below hlW) ys ny _ _ hly hmy (HRy.out.below hlW)).mono ?_
  rintro e w2 ⟨rfl, hb2⟩
  have HWB2 := Lib.hid (HWB.out.below hb2)
  have z2 := hb2.size
  (try simp at z2)
  have y2a : w.heap.size < w2.heap.size := (by omega)
  have y2b : w.heap.size + 1 < w2.heap.size := (by omega)
  have k2_0 := bel_keeps hb2 (b := w.heap.size) (o := 0) (v := .slice a1 gs.length c1) (by first | (go_simp; done) | assumption)
  have k2_1 := bel_keeps hb2 (b := w.heap.size) (o := 1) (v := .slice a2 os.length c2) (by first | (go_simp; done) | assumption)
  have k2_2 := bel_keeps hb2 (b := w.heap.size + 1) (o := 0) (v := .slice none 0 0) (by first | (go_simp; done) | assumption)
  have k2_3 := bel_keeps hb2 (b := w.heap.size + 1) (o := 1) (v := .slice none 0 0) (by first | (go_simp; done) | assumption)
  have f2_0 := bel_free hb2 (b := w.heap.size + 1) (o := 0) (by first | omega | (simp; done) | (simp; omega)) (by first | (go_simp; done) | assumption)
  have f2_1 := bel_free hb2 (b := w.heap.size + 1) (o := 1) (by first | omega | (simp; done) | (simp; omega)) (by first | (go_simp; done) | assumption)
  clear kW_0 kW_1 kW_2 kW_3 fW_0 fW_1
  clear hb2
  cases hq : askB gs os xs ys
  · have e1 : PG = gs := by rw [HPG.out, show (askB gs os xs ys) = false from hq]; rfl
    have e2 : PW = (-1) := by rw [HPW.out, show (askB gs os xs ys) = false from hq]; rfl
    have HE1 := Lib.hid e1
    have HE2 := Lib.hid e2
    clear e1 e2
    obtain ⟨adR, capR, hcR, _, _⟩ := HWB2.out.b.row
    have hc1R := HWB2.out.b.snd
    have hlR := HWB2.out.l
    go_wp2_with fail
    refine bodyPost_ret (v := .tuple #[.agg #[.slice adR gs.length capR, .slice (some ⟨g2, 0, none⟩) os.length d2], .int .i64 (-1)]) (by simp [results, Try.results25, go_sem, *]) rfl ?_
    rw [HE1.out, HE2.out]
    exact HWB2.out.postI hcR (fun b hb => (by (repeat (first | with_reducible exact Kp.refl _ _ | (with_reducible refine Kp.rng ?_ (by assumption) ?_) | (with_reducible refine Kp.below ?_ (by assumption)) | (with_reducible refine Kp.grown ?_ (by assumption) ?_) | (with_reducible refine Kp.alloc ?_ _) | (with_reducible refine Kp.drew ?_) | (with_reducible refine Kp.drewN ?_ _) | (with_reducible refine Kp.setCell ?_ _ ?_))) <;> (first | omega | (simp; done) | (simp; omega)))) (by (repeat (first | with_reducible exact Below.refl _ _ | (with_reducible refine bel_next ?_ ?_ (by assumption)) | (with_reducible refine Below.alloc ?_ ?_ _) | (with_reducible refine Below.drew ?_) | (with_reducible refine below_drewN ?_ _) | (with_reducible refine Below.setCell ?_ ?_ _))) <;> (first | omega | (simp; done) | (simp; omega)))
  · have e1 : PG = (equalP xs ys gs).1 := by rw [HPG.out, show (askB gs os xs ys) = true from hq]; rfl
    have e2 : PW = (equalP xs ys gs).2 := by rw [HPW.out, show (askB gs os xs ys) = true from hq]; rfl
    have HE1 := Lib.hid e1
    have HE2 := Lib.hid e2
    clear e1 e2
    obtain ⟨hx4, hy4, h59⟩ := askB_len hq
    rw [hlx] at hx4
    rw [hly] at hy4
    subst hx4; subst hy4
    have frx3 := HWB2.out.fra HRx.out (by omega)
    have rdx3 := HRx.out.below HWB2.out.l
    have fry3 := HWB2.out.fra HRy.out (by omega)
    have rdy3 := HRy.out.below HWB2.out.l
    go_wp2_with fail
    refine (l14Equal_any gs _ _ bx _ HWB2.out.b (by omega) xs ax cx hlx rdx3 frx3 ys ay cy hly rdy3 fry3).mono ?_
    rintro e w3 ⟨rfl, hB3, hF3, hL3⟩
    have HWB3 := Lib.hid (HWB2.out.on hB3 hF3 hL3)
    have k3_0 := Fr.cell hF3 (HWB2.out.b.frn_lo (by omega)) k2_0
    have k3_1 := Fr.cell hF3 (HWB2.out.b.frn_lo (by omega)) k2_1
    have k3_2 := Fr.cell hF3 (HWB2.out.b.frn_lo (by omega)) k2_2
    have k3_3 := Fr.cell hF3 (HWB2.out.b.frn_lo (by omega)) k2_3
    have f3_0 := Fr.free hF3 (HWB2.out.b.frn_lo (by omega)) f2_0
    have f3_1 := Fr.free hF3 (HWB2.out.b.frn_lo (by omega)) f2_1
    clear k2_0 k2_1 k2_2 k2_3 f2_0 f2_1
    clear hB3 hF3 hL3 frx3 rdx3 fry3 rdy3
    obtain ⟨adR, capR, hcR, _, _⟩ := HWB3.out.b.row
    have hc1R := HWB3.out.b.snd
    have hlR := HWB3.out.l
    go_wp2_with fail
    refine bodyPost_ret (v := .tuple #[.agg #[.slice adR (equalP xs ys gs).1.length capR, .slice (some ⟨g2, 0, none⟩) os.length d2], .int .i64 (equalP xs ys gs).2]) (by simp [results, Try.results25, go_sem, *]) rfl ?_
    rw [HE1.out, HE2.out]
    exact HWB3.out.postI hcR (fun b hb => (by (repeat (first | with_reducible exact Kp.refl _ _ | (with_reducible refine Kp.rng ?_ (by assumption) ?_) | (with_reducible refine Kp.below ?_ (by assumption)) | (with_reducible refine Kp.grown ?_ (by assumption) ?_) | (with_reducible refine Kp.alloc ?_ _) | (with_reducible refine Kp.drew ?_) | (with_reducible refine Kp.drewN ?_ _) | (with_reducible refine Kp.setCell ?_ _ ?_))) <;> (first | omega | (simp; done) | (simp; omega)))) (by (repeat (first | with_reducible exact Below.refl _ _ | (with_reducible refine bel_next ?_ ?_ (by assumption)) | (with_reducible refine Below.alloc ?_ ?_ _) | (with_reducible refine Below.drew ?_) | (with_reducible refine below_drewN ?_ _) | (with_reducible refine Below.setCell ?_ ?_ _))) <;> (first | omega | (simp; done) | (simp; omega)))
set_option maxRecDepth 20000 in
set_option maxHeartbeats 8000000 in
theorem sWordMux_any (gs : List Gt) (os : List Int) (a1 a2 : Option Addr) (c1 c2 : Nat) (w : World) (hm : gs.length ≤ 1048576) (hm2 : os.length ≤ 1048576) (hr : RdC w a1 (gtCells gs)) (hr2 : RdC w a2 (I64 os)) (s0 : Int) (xs : List Int) (nx : Nat) (ax : Option Addr) (cx : Nat) (hlx : xs.length = nx) (hmx : nx ≤ 1048576) (hrx : RdC w ax (I64 xs)) (ys : List Int) (ny : Nat) (ay : Option Addr) (cy : Nat) (hly : ys.length = ny) (hmy : ny ≤ 1048576) (hry : RdC w ay (I64 ys))  :
    Calls Try.prog 22 #[.agg #[.slice a1 gs.length c1, .slice a2 os.length c2], .int .i64 s0, .slice ax nx cx, .slice ay ny cy] w fun e w' => PostW w w' e (wP (askB gs os xs ys && inB s0 0 ((gs.length : Int) - 1)) (muxP s0 xs ys gs) gs []).1 os (wP (askB gs os xs ys && inB s0 0 ((gs.length : Int) - 1)) (muxP s0 xs ys gs) gs []).2 := by
  have HR := Lib.hid hr
  have HR2 := Lib.hid hr2
  have HRx := Lib.hid hrx
  have HRy := Lib.hid hry
  clear hr hr2 hrx hry
  have nH : w.heap.size ≠ w.heap.size + 1 := by omega
  obtain ⟨PG, hPG⟩ : ∃ z, z = (wP (askB gs os xs ys && inB s0 0 ((gs.length : Int) - 1)) (muxP s0 xs ys gs) gs []).1 := ⟨_, rfl⟩
  obtain ⟨PW, hPW⟩ : ∃ z, z = (wP (askB gs os xs ys && inB s0 0 ((gs.length : Int) - 1)) (muxP s0 xs ys gs) gs []).2 := ⟨_, rfl⟩
  rw [← hPG, ← hPW]
  have HPG := Lib.hid hPG
  have HPW := Lib.hid hPW
  clear hPG hPW
  go_enter Try.func22, Try.ntmps22
  go_wp2_with fail
  refine (l14Copy_any gs os _ _ _ _ _ hm hm2 (HR.out.below (by (repeat (first | with_reducible exact Below.refl _ _ | (with_reducible refine bel_next ?_ ?_ (by assumption)) | (with_reducible refine Below.alloc ?_ ?_ _) | (with_reducible refine Below.drew ?_) | (with_reducible refine below_drewN ?_ _) | (with_reducible refine Below.setCell ?_ ?_ _))) <;> (first | omega | (simp; done) | (simp; omega)))) (HR2.out.below (by (repeat (first | with_reducible exact Below.refl _ _ | (with_reducible refine bel_next ?_ ?_ (by assumption)) | (with_reducible refine Below.alloc ?_ ?_ _) | (with_reducible refine Below.drew ?_) | (with_reducible refine below_drewN ?_ _) | (with_reducible refine Below.setCell ?_ ?_ _))) <;> (first | omega | (simp; done) | (simp; omega))))).mono ?_
  rintro e w1 ⟨g1, d1, g2, d2, rfl, ho1, ho2, hne, hb1⟩
  have z1 := hb1.size
  (try simp at z1)
  have y1a : w.heap.size < w1.heap.size := (by omega)
  have y1b : w.heap.size + 1 < w1.heap.size := (by omega)
  have k1_0 := bel_keeps hb1 (b := w.heap.size) (o := 0) (v := .slice a1 gs.length c1) (by first | (go_simp; done) | assumption)
  have k1_1 := bel_keeps hb1 (b := w.heap.size) (o := 1) (v := .slice a2 os.length c2) (by first | (go_simp; done) | assumption)
  have k1_2 := bel_keeps hb1 (b := w.heap.size + 1) (o := 0) (v := .slice none 0 0) (by first | (go_simp; done) | assumption)
  have k1_3 := bel_keeps hb1 (b := w.heap.size + 1) (o := 1) (v := .slice none 0 0) (by first | (go_simp; done) | assumption)
  have f1_0 := bel_free hb1 (b := w.heap.size + 1) (o := 0) (by first | omega | (simp; done) | (simp; omega)) (by first | (go_simp; done) | assumption)
  have f1_1 := bel_free hb1 (b := w.heap.size + 1) (o := 1) (by first | omega | (simp; done) | (simp; omega)) (by first | (go_simp; done) | assumption)
  have hbw1 : Below w.heap.size w w1 := (by (repeat (first | with_reducible exact Below.refl _ _ | (with_reducible refine bel_next ?_ ?_ (by assumption)) | (with_reducible refine Below.alloc ?_ ?_ _) | (with_reducible refine Below.drew ?_) | (with_reducible refine below_drewN ?_ _) | (with_reducible refine Below.setCell ?_ ?_ _))) <;> (first | omega | (simp; done) | (simp; omega)))
  go_wp2_with fail
  obtain ⟨W, hW⟩ : ∃ W, W = w1.alloc (.cells #[.slice (some ⟨g1, 0, none⟩) gs.length d1, .slice (some ⟨g2, 0, none⟩) os.length d2] 29) := ⟨_, rfl⟩
  obtain ⟨bx, hbx⟩ : ∃ b, b = w1.heap.size := ⟨_, rfl⟩
  rw [← hW, ← hbx]
  have hbW : Below w1.heap.size w1 W := by rw [hW]; exact (Below.refl _ _).alloc (Nat.le_refl _) _
  have HWB := Lib.hid (WB.start (w0 := w) (w := W) (bx := bx) (ho1.lo (by simp)) (ho2.lo (by simp)) hne (hbw1.trans (hbW.mono (by omega))) hbW hbx (by rw [hW]; simp) (by rw [hW, hbx]; go_simp) (by rw [hW, hbx]; go_simp) (by rw [hW, hbx]; go_simp) (by rw [hW, hbx]; go_simp))
  have hbb : w.heap.size + 2 ≤ bx := by omega
  have zW := hbW.size
  (try simp at zW)
  have yWa : w.heap.size < W.heap.size := (by omega)
  have yWb : w.heap.size + 1 < W.heap.size := (by omega)
  have kW_0 := bel_keeps hbW (b := w.heap.size) (o := 0) (v := .slice a1 gs.length c1) (by first | (go_simp; done) | assumption)
  have kW_1 := bel_keeps hbW (b := w.heap.size) (o := 1) (v := .slice a2 os.length c2) (by first | (go_simp; done) | assumption)
  have kW_2 := bel_keeps hbW (b := w.heap.size + 1) (o := 0) (v := .slice none 0 0) (by first | (go_simp; done) | assumption)
  have kW_3 := bel_keeps hbW (b := w.heap.size + 1) (o := 1) (v := .slice none 0 0) (by first | (go_simp; done) | assumption)
  have fW_0 := bel_free hbW (b := w.heap.size + 1) (o := 0) (by first | omega | (simp; done) | (simp; omega)) (by first | (go_simp; done) | assumption)
  have fW_1 := bel_free hbW (b := w.heap.size + 1) (o := 1) (by first | omega | (simp; done) | (simp; omega)) (by first | (go_simp; done) | assumption)
  clear k1_0 k1_1 k1_2 k1_3 f1_0 f1_1
  clear hW hbx hbW ho1 ho2 hne hb1 hbw1
  have hlW := HWB.out.l
  refine (l14Ask_any gs os _ _ _ _ _ hm hm2 (HR.out.below hlW) (HR2.out.below hlW) xs nx _ _ hlx hmx (HRx.out.below hlW) ys ny _ _ hly hmy (HRy.out.below hlW)).mono ?_
  rintro e w2 ⟨rfl, hb2⟩
  have HWB2 := Lib.hid (HWB.out.below hb2)
  have z2 := hb2.size
  (try simp at z2)
  have y2a : w.heap.size < w2.heap.size := (by omega)
  have y2b : w.heap.size + 1 < w2.heap.size := (by omega)
  have k2_0 := bel_keeps hb2 (b := w.heap.size) (o := 0) (v := .slice a1 gs.length c1) (by first | (go_simp; done) | assumption)
  have k2_1 := bel_keeps hb2 (b := w.heap.size) (o := 1) (v := .slice a2 os.length c2) (by first | (go_simp; done) | assumption)
  have k2_2 := bel_keeps hb2 (b := w.heap.size + 1) (o := 0) (v := .slice none 0 0) (by first | (go_simp; done) | assumption)
  have k2_3 := bel_keeps hb2 (b := w.heap.size + 1) (o := 1) (v := .slice none 0 0) (by first | (go_simp; done) | assumption)
  have f2_0 := bel_free hb2 (b := w.heap.size + 1) (o := 0) (by first | omega | (simp; done) | (simp; omega)) (by first | (go_simp; done) | assumption)
  have f2_1 := bel_free hb2 (b := w.heap.size + 1) (o := 1) (by first | omega | (simp; done) | (simp; omega)) (by first | (go_simp; done) | assumption)
  clear kW_0 kW_1 kW_2 kW_3 fW_0 fW_1
  clear hb2
  cases hq : askB gs os xs ys
  · have e1 : PG = gs := by rw [HPG.out, show (askB gs os xs ys && inB s0 0 ((gs.length : Int) - 1)) = false from by rw [hq]; rfl]; rfl
    have e2 : PW = [] := by rw [HPW.out, show (askB gs os xs ys && inB s0 0 ((gs.length : Int) - 1)) = false from by rw [hq]; rfl]; rfl
    have HE1 := Lib.hid e1
    have HE2 := Lib.hid e2
    clear e1 e2
    obtain ⟨adR, capR, hcR, _, _⟩ := HWB2.out.b.row
    have hc1R := HWB2.out.b.snd
    have hlR := HWB2.out.l
    go_wp2_with fail
    refine bodyPost_ret (v := .tuple #[.agg #[.slice adR gs.length capR, .slice (some ⟨g2, 0, none⟩) os.length d2], .slice (some ⟨w2.heap.size, 0, none⟩) 0 0]) (by simp [results, Try.results22, go_sem, *]) rfl ?_
    rw [HE1.out, HE2.out]
    exact HWB2.out.postW hcR rfl (own_last _ _ _ _ w2.heap.size (by simp [World.setCell]) (Nat.le_refl _)) (fun y e => by obtain rfl := Option.some.inj e; exact ⟨fun e => by have := HWB2.out.b.gblk_lt e; simp at this, by have := HWB2.out.f.1; show w2.heap.size ≠ g2; omega⟩) (by omega) (fun b hb => (by (repeat (first | with_reducible exact Kp.refl _ _ | (with_reducible refine Kp.rng ?_ (by assumption) ?_) | (with_reducible refine Kp.below ?_ (by assumption)) | (with_reducible refine Kp.grown ?_ (by assumption) ?_) | (with_reducible refine Kp.alloc ?_ _) | (with_reducible refine Kp.drew ?_) | (with_reducible refine Kp.drewN ?_ _) | (with_reducible refine Kp.setCell ?_ _ ?_))) <;> (first | omega | (simp; done) | (simp; omega)))) (by (repeat (first | with_reducible exact Below.refl _ _ | (with_reducible refine bel_next ?_ ?_ (by assumption)) | (with_reducible refine Below.alloc ?_ ?_ _) | (with_reducible refine Below.drew ?_) | (with_reducible refine below_drewN ?_ _) | (with_reducible refine Below.setCell ?_ ?_ _))) <;> (first | omega | (simp; done) | (simp; omega) | (simp [World.setCell]; omega)))
  · go_wp2_with fail
    refine (l01In_any _ _ _ _).mono ?_
    rintro e _ ⟨rfl, rfl⟩
    cases hi : inB s0 0 ((gs.length : Int) - 1)
    · have e1 : PG = gs := by rw [HPG.out, show (askB gs os xs ys && inB s0 0 ((gs.length : Int) - 1)) = false from by rw [hi]; simp]; rfl
      have e2 : PW = [] := by rw [HPW.out, show (askB gs os xs ys && inB s0 0 ((gs.length : Int) - 1)) = false from by rw [hi]; simp]; rfl
      have HE1 := Lib.hid e1
      have HE2 := Lib.hid e2
      clear e1 e2
      obtain ⟨adR, capR, hcR, _, _⟩ := HWB2.out.b.row
      have hc1R := HWB2.out.b.snd
      have hlR := HWB2.out.l
      go_wp2_with fail
      refine bodyPost_ret (v := .tuple #[.agg #[.slice adR gs.length capR, .slice (some ⟨g2, 0, none⟩) os.length d2], .slice (some ⟨w2.heap.size, 0, none⟩) 0 0]) (by simp [results, Try.results22, go_sem, *]) rfl ?_
      rw [HE1.out, HE2.out]
      exact HWB2.out.postW hcR rfl (own_last _ _ _ _ w2.heap.size (by simp [World.setCell]) (Nat.le_refl _)) (fun y e => by obtain rfl := Option.some.inj e; exact ⟨fun e => by have := HWB2.out.b.gblk_lt e; simp at this, by have := HWB2.out.f.1; show w2.heap.size ≠ g2; omega⟩) (by omega) (fun b hb => (by (repeat (first | with_reducible exact Kp.refl _ _ | (with_reducible refine Kp.rng ?_ (by assumption) ?_) | (with_reducible refine Kp.below ?_ (by assumption)) | (with_reducible refine Kp.grown ?_ (by assumption) ?_) | (with_reducible refine Kp.alloc ?_ _) | (with_reducible refine Kp.drew ?_) | (with_reducible refine Kp.drewN ?_ _) | (with_reducible refine Kp.setCell ?_ _ ?_))) <;> (first | omega | (simp; done) | (simp; omega)))) (by (repeat (first | with_reducible exact Below.refl _ _ | (with_reducible refine bel_next ?_ ?_ (by assumption)) | (with_reducible refine Below.alloc ?_ ?_ _) | (with_reducible refine Below.drew ?_) | (with_reducible refine below_drewN ?_ _) | (with_reducible refine Below.setCell ?_ ?_ _))) <;> (first | omega | (simp; done) | (simp; omega) | (simp [World.setCell]; omega)))
    · have e1 : PG = (muxP s0 xs ys gs).1 := by rw [HPG.out, show (askB gs os xs ys && inB s0 0 ((gs.length : Int) - 1)) = true from by rw [hq, hi]; rfl]; rfl
      have e2 : PW = (muxP s0 xs ys gs).2 := by rw [HPW.out, show (askB gs os xs ys && inB s0 0 ((gs.length : Int) - 1)) = true from by rw [hq, hi]; rfl]; rfl
      have HE1 := Lib.hid e1
      have HE2 := Lib.hid e2
      clear e1 e2
      obtain ⟨hx4, hy4, h59⟩ := askB_len hq
      rw [hlx] at hx4
      rw [hly] at hy4
      subst hx4; subst hy4
      have frx3 := HWB2.out.fra HRx.out (by omega)
      have rdx3 := HRx.out.below HWB2.out.l
      have fry3 := HWB2.out.fra HRy.out (by omega)
      have rdy3 := HRy.out.below HWB2.out.l
      go_wp2_with fail
      refine (l14Mux_any gs s0 _ _ bx _ HWB2.out.b (by omega) xs ax cx hlx rdx3 frx3 ys ay cy hly rdy3 fry3).mono ?_
      rintro e w3 ⟨h3, c3, rfl, hs3⟩
      have HWB3 := Lib.hid (HWB2.out.on hs3.b hs3.r hs3.l)
      have k3_0 := Fr.cell hs3.r (HWB2.out.b.frn_lo (by omega)) k2_0
      have k3_1 := Fr.cell hs3.r (HWB2.out.b.frn_lo (by omega)) k2_1
      have k3_2 := Fr.cell hs3.r (HWB2.out.b.frn_lo (by omega)) k2_2
      have k3_3 := Fr.cell hs3.r (HWB2.out.b.frn_lo (by omega)) k2_3
      have f3_0 := Fr.free hs3.r (HWB2.out.b.frn_lo (by omega)) f2_0
      have f3_1 := Fr.free hs3.r (HWB2.out.b.frn_lo (by omega)) f2_1
      clear k2_0 k2_1 k2_2 k2_3 f2_0 f2_1
      have HS3 := Lib.hid hs3
      clear hs3 frx3 rdx3 fry3 rdy3
      obtain ⟨adR, capR, hcR, _, _⟩ := HWB3.out.b.row
      have hc1R := HWB3.out.b.snd
      have hlR := HWB3.out.l
      go_wp2_with fail
      refine bodyPost_ret (v := .tuple #[.agg #[.slice adR (muxP s0 xs ys gs).1.length capR, .slice (some ⟨g2, 0, none⟩) os.length d2], .slice (some ⟨h3, 0, none⟩) 4 c3]) (by simp [results, Try.results22, go_sem, *]) rfl ?_
      rw [HE1.out, HE2.out]
      exact HWB3.out.postW hcR (by have := HS3.out.o.len; simpa using this.symm) (by have h1 := HS3.out.ge; have h2 := HWB2.out.b.le; exact HS3.out.o.later (by (repeat (first | with_reducible exact Kp.refl _ _ | (with_reducible refine Kp.rng ?_ (by assumption) ?_) | (with_reducible refine Kp.below ?_ (by assumption)) | (with_reducible refine Kp.grown ?_ (by assumption) ?_) | (with_reducible refine Kp.alloc ?_ _) | (with_reducible refine Kp.drew ?_) | (with_reducible refine Kp.drewN ?_ _) | (with_reducible refine Kp.setCell ?_ _ ?_))) <;> (first | omega | (simp; done) | (simp; omega)))) (fun y e => by obtain rfl := Option.some.inj e; exact ⟨HS3.out.f.2.2, by have h1 := HS3.out.ge; have h2 := HWB2.out.f.1; show h3 ≠ g2; omega⟩) (by have := HWB2.out.b.le; omega) (fun b hb => (by (repeat (first | with_reducible exact Kp.refl _ _ | (with_reducible refine Kp.rng ?_ (by assumption) ?_) | (with_reducible refine Kp.below ?_ (by assumption)) | (with_reducible refine Kp.grown ?_ (by assumption) ?_) | (with_reducible refine Kp.alloc ?_ _) | (with_reducible refine Kp.drew ?_) | (with_reducible refine Kp.drewN ?_ _) | (with_reducible refine Kp.setCell ?_ _ ?_))) <;> (first | omega | (simp; done) | (simp; omega)))) (by (repeat (first | with_reducible exact Below.refl _ _ | (with_reducible refine bel_next ?_ ?_ (by assumption)) | (with_reducible refine Below.alloc ?_ ?_ _) | (with_reducible refine Below.drew ?_) | (with_reducible refine below_drewN ?_ _) | (with_reducible refine Below.setCell ?_ ?_ _))) <;> (first | omega | (simp; done) | (simp; omega)))
set_option maxRecDepth 20000 in
set_option maxHeartbeats 8000000 in
theorem sWordConst_any (gs : List Gt) (os : List Int) (a1 a2 : Option Addr) (c1 c2 : Nat) (w : World) (hm : gs.length ≤ 1048576) (hm2 : os.length ≤ 1048576) (hr : RdC w a1 (gtCells gs)) (hr2 : RdC w a2 (I64 os)) (n0 : Int)   :
    Calls Try.prog 13 #[.agg #[.slice a1 gs.length c1, .slice a2 os.length c2], .int .i64 n0] w fun e w' => PostW w w' e (wP (roomB gs os && inB n0 0 15) (constP n0 gs) gs []).1 os (wP (roomB gs os && inB n0 0 15) (constP n0 gs) gs []).2 := by
  have HR := Lib.hid hr
  have HR2 := Lib.hid hr2
  clear hr hr2
  have nH : w.heap.size ≠ w.heap.size + 1 := by omega
  obtain ⟨PG, hPG⟩ : ∃ z, z = (wP (roomB gs os && inB n0 0 15) (constP n0 gs) gs []).1 := ⟨_, rfl⟩
  obtain ⟨PW, hPW⟩ : ∃ z, z = (wP (roomB gs os && inB n0 0 15) (constP n0 gs) gs []).2 := ⟨_, rfl⟩
  rw [← hPG, ← hPW]
  have HPG := Lib.hid hPG
  have HPW := Lib.hid hPW
  clear hPG hPW
  go_enter Try.func13, Try.ntmps13
  go_wp2_with fail
  refine (l14Copy_any gs os _ _ _ _ _ hm hm2 (HR.out.below (by (repeat (first | with_reducible exact Below.refl _ _ | (with_reducible refine bel_next ?_ ?_ (by assumption)) | (with_reducible refine Below.alloc ?_ ?_ _) | (with_reducible refine Below.drew ?_) | (with_reducible refine below_drewN ?_ _) | (with_reducible refine Below.setCell ?_ ?_ _))) <;> (first | omega | (simp; done) | (simp; omega)))) (HR2.out.below (by (repeat (first | with_reducible exact Below.refl _ _ | (with_reducible refine bel_next ?_ ?_ (by assumption)) | (with_reducible refine Below.alloc ?_ ?_ _) | (with_reducible refine Below.drew ?_) | (with_reducible refine below_drewN ?_ _) | (with_reducible refine Below.setCell ?_ ?_ _))) <;> (first | omega | (simp; done) | (simp; omega))))).mono ?_
  rintro e w1 ⟨g1, d1, g2, d2, rfl, ho1, ho2, hne, hb1⟩
  have z1 := hb1.size
  (try simp at z1)
  have y1a : w.heap.size < w1.heap.size := (by omega)
  have y1b : w.heap.size + 1 < w1.heap.size := (by omega)
  have k1_0 := bel_keeps hb1 (b := w.heap.size) (o := 0) (v := .slice a1 gs.length c1) (by first | (go_simp; done) | assumption)
  have k1_1 := bel_keeps hb1 (b := w.heap.size) (o := 1) (v := .slice a2 os.length c2) (by first | (go_simp; done) | assumption)
  have k1_2 := bel_keeps hb1 (b := w.heap.size + 1) (o := 0) (v := .slice none 0 0) (by first | (go_simp; done) | assumption)
  have k1_3 := bel_keeps hb1 (b := w.heap.size + 1) (o := 1) (v := .slice none 0 0) (by first | (go_simp; done) | assumption)
  have f1_0 := bel_free hb1 (b := w.heap.size + 1) (o := 0) (by first | omega | (simp; done) | (simp; omega)) (by first | (go_simp; done) | assumption)
  have f1_1 := bel_free hb1 (b := w.heap.size + 1) (o := 1) (by first | omega | (simp; done) | (simp; omega)) (by first | (go_simp; done) | assumption)
  have hbw1 : Below w.heap.size w w1 := (by (repeat (first | with_reducible exact Below.refl _ _ | (with_reducible refine bel_next ?_ ?_ (by assumption)) | (with_reducible refine Below.alloc ?_ ?_ _) | (with_reducible refine Below.drew ?_) | (with_reducible refine below_drewN ?_ _) | (with_reducible refine Below.setCell ?_ ?_ _))) <;> (first | omega | (simp; done) | (simp; omega)))
  go_wp2_with fail
  obtain ⟨W, hW⟩ : ∃ W, W = w1.alloc (.cells #[.slice (some ⟨g1, 0, none⟩) gs.length d1, .slice (some ⟨g2, 0, none⟩) os.length d2] 29) := ⟨_, rfl⟩
  obtain ⟨bx, hbx⟩ : ∃ b, b = w1.heap.size := ⟨_, rfl⟩
  rw [← hW, ← hbx]
  have hbW : Below w1.heap.size w1 W := by rw [hW]; exact (Below.refl _ _).alloc (Nat.le_refl _) _
  have HWB := Lib.hid (WB.start (w0 := w) (w := W) (bx := bx) (ho1.lo (by simp)) (ho2.lo (by simp)) hne (hbw1.trans (hbW.mono (by omega))) hbW hbx (by rw [hW]; simp) (by rw [hW, hbx]; go_simp) (by rw [hW, hbx]; go_simp) (by rw [hW, hbx]; go_simp) (by rw [hW, hbx]; go_simp))
  have hbb : w.heap.size + 2 ≤ bx := by omega
  have zW := hbW.size
  (try simp at zW)
  have yWa : w.heap.size < W.heap.size := (by omega)
  have yWb : w.heap.size + 1 < W.heap.size := (by omega)
  have kW_0 := bel_keeps hbW (b := w.heap.size) (o := 0) (v := .slice a1 gs.length c1) (by first | (go_simp; done) | assumption)
  have kW_1 := bel_keeps hbW (b := w.heap.size) (o := 1) (v := .slice a2 os.length c2) (by first | (go_simp; done) | assumption)
  have kW_2 := bel_keeps hbW (b := w.heap.size + 1) (o := 0) (v := .slice none 0 0) (by first | (go_simp; done) | assumption)
  have kW_3 := bel_keeps hbW (b := w.heap.size + 1) (o := 1) (v := .slice none 0 0) (by first | (go_simp; done) | assumption)
  have fW_0 := bel_free hbW (b := w.heap.size + 1) (o := 0) (by first | omega | (simp; done) | (simp; omega)) (by first | (go_simp; done) | assumption)
  have fW_1 := bel_free hbW (b := w.heap.size + 1) (o := 1) (by first | omega | (simp; done) | (simp; omega)) (by first | (go_simp; done) | assumption)
  clear k1_0 k1_1 k1_2 k1_3 f1_0 f1_1
  clear hW hbx hbW ho1 ho2 hne hb1 hbw1
  have hlW := HWB.out.l
  refine (sCircuitOk_any gs os _ _ _ _ _ hm hm2 (HR.out.below hlW) (HR2.out.below hlW)).mono ?_
  rintro e w2 ⟨rfl, hb2⟩
  have HWB2 := Lib.hid (HWB.out.below hb2)
  have z2 := hb2.size
  (try simp at z2)
  have y2a : w.heap.size < w2.heap.size := (by omega)
  have y2b : w.heap.size + 1 < w2.heap.size := (by omega)
  have k2_0 := bel_keeps hb2 (b := w.heap.size) (o := 0) (v := .slice a1 gs.length c1) (by first | (go_simp; done) | assumption)
  have k2_1 := bel_keeps hb2 (b := w.heap.size) (o := 1) (v := .slice a2 os.length c2) (by first | (go_simp; done) | assumption)
  have k2_2 := bel_keeps hb2 (b := w.heap.size + 1) (o := 0) (v := .slice none 0 0) (by first | (go_simp; done) | assumption)
  have k2_3 := bel_keeps hb2 (b := w.heap.size + 1) (o := 1) (v := .slice none 0 0) (by first | (go_simp; done) | assumption)
  have f2_0 := bel_free hb2 (b := w.heap.size + 1) (o := 0) (by first | omega | (simp; done) | (simp; omega)) (by first | (go_simp; done) | assumption)
  have f2_1 := bel_free hb2 (b := w.heap.size + 1) (o := 1) (by first | omega | (simp; done) | (simp; omega)) (by first | (go_simp; done) | assumption)
  clear kW_0 kW_1 kW_2 kW_3 fW_0 fW_1
  clear hb2
  by_cases h59 : gs.length ≤ 5900
  case neg =>
    cases hc : circOk gs os
    · have e1 : PG = gs := by rw [HPG.out, show (roomB gs os && inB n0 0 15) = false from by simp [roomB, h59]]; rfl
      have e2 : PW = [] := by rw [HPW.out, show (roomB gs os && inB n0 0 15) = false from by simp [roomB, h59]]; rfl
      have HE1 := Lib.hid e1
      have HE2 := Lib.hid e2
      clear e1 e2
      obtain ⟨adR, capR, hcR, _, _⟩ := HWB2.out.b.row
      have hc1R := HWB2.out.b.snd
      have hlR := HWB2.out.l
      go_wp2_with fail
      refine bodyPost_ret (v := .tuple #[.agg #[.slice adR gs.length capR, .slice (some ⟨g2, 0, none⟩) os.length d2], .slice (some ⟨w2.heap.size, 0, none⟩) 0 0]) (by simp [results, Try.results13, go_sem, *]) rfl ?_
      rw [HE1.out, HE2.out]
      exact HWB2.out.postW hcR rfl (own_last _ _ _ _ w2.heap.size (by simp [World.setCell]) (Nat.le_refl _)) (fun y e => by obtain rfl := Option.some.inj e; exact ⟨fun e => by have := HWB2.out.b.gblk_lt e; simp at this, by have := HWB2.out.f.1; show w2.heap.size ≠ g2; omega⟩) (by omega) (fun b hb => (by (repeat (first | with_reducible exact Kp.refl _ _ | (with_reducible refine Kp.rng ?_ (by assumption) ?_) | (with_reducible refine Kp.below ?_ (by assumption)) | (with_reducible refine Kp.grown ?_ (by assumption) ?_) | (with_reducible refine Kp.alloc ?_ _) | (with_reducible refine Kp.drew ?_) | (with_reducible refine Kp.drewN ?_ _) | (with_reducible refine Kp.setCell ?_ _ ?_))) <;> (first | omega | (simp; done) | (simp; omega)))) (by (repeat (first | with_reducible exact Below.refl _ _ | (with_reducible refine bel_next ?_ ?_ (by assumption)) | (with_reducible refine Below.alloc ?_ ?_ _) | (with_reducible refine Below.drew ?_) | (with_reducible refine below_drewN ?_ _) | (with_reducible refine Below.setCell ?_ ?_ _))) <;> (first | omega | (simp; done) | (simp; omega) | (simp [World.setCell]; omega)))
    · have e1 : PG = gs := by rw [HPG.out, show (roomB gs os && inB n0 0 15) = false from by simp [roomB, h59]]; rfl
      have e2 : PW = [] := by rw [HPW.out, show (roomB gs os && inB n0 0 15) = false from by simp [roomB, h59]]; rfl
      have HE1 := Lib.hid e1
      have HE2 := Lib.hid e2
      clear e1 e2
      obtain ⟨adR, capR, hcR, _, _⟩ := HWB2.out.b.row
      have hc1R := HWB2.out.b.snd
      have hlR := HWB2.out.l
      go_wp2_with fail
      refine bodyPost_ret (v := .tuple #[.agg #[.slice adR gs.length capR, .slice (some ⟨g2, 0, none⟩) os.length d2], .slice (some ⟨w2.heap.size, 0, none⟩) 0 0]) (by simp [results, Try.results13, go_sem, *]) rfl ?_
      rw [HE1.out, HE2.out]
      exact HWB2.out.postW hcR rfl (own_last _ _ _ _ w2.heap.size (by simp [World.setCell]) (Nat.le_refl _)) (fun y e => by obtain rfl := Option.some.inj e; exact ⟨fun e => by have := HWB2.out.b.gblk_lt e; simp at this, by have := HWB2.out.f.1; show w2.heap.size ≠ g2; omega⟩) (by omega) (fun b hb => (by (repeat (first | with_reducible exact Kp.refl _ _ | (with_reducible refine Kp.rng ?_ (by assumption) ?_) | (with_reducible refine Kp.below ?_ (by assumption)) | (with_reducible refine Kp.grown ?_ (by assumption) ?_) | (with_reducible refine Kp.alloc ?_ _) | (with_reducible refine Kp.drew ?_) | (with_reducible refine Kp.drewN ?_ _) | (with_reducible refine Kp.setCell ?_ _ ?_))) <;> (first | omega | (simp; done) | (simp; omega)))) (by (repeat (first | with_reducible exact Below.refl _ _ | (with_reducible refine bel_next ?_ ?_ (by assumption)) | (with_reducible refine Below.alloc ?_ ?_ _) | (with_reducible refine Below.drew ?_) | (with_reducible refine below_drewN ?_ _) | (with_reducible refine Below.setCell ?_ ?_ _))) <;> (first | omega | (simp; done) | (simp; omega) | (simp [World.setCell]; omega)))
  cases hc : circOk gs os
  · have e1 : PG = gs := by rw [HPG.out, show (roomB gs os && inB n0 0 15) = false from by simp [roomB, hc]]; rfl
    have e2 : PW = [] := by rw [HPW.out, show (roomB gs os && inB n0 0 15) = false from by simp [roomB, hc]]; rfl
    have HE1 := Lib.hid e1
    have HE2 := Lib.hid e2
    clear e1 e2
    obtain ⟨adR, capR, hcR, _, _⟩ := HWB2.out.b.row
    have hc1R := HWB2.out.b.snd
    have hlR := HWB2.out.l
    go_wp2_with fail
    refine bodyPost_ret (v := .tuple #[.agg #[.slice adR gs.length capR, .slice (some ⟨g2, 0, none⟩) os.length d2], .slice (some ⟨w2.heap.size, 0, none⟩) 0 0]) (by simp [results, Try.results13, go_sem, *]) rfl ?_
    rw [HE1.out, HE2.out]
    exact HWB2.out.postW hcR rfl (own_last _ _ _ _ w2.heap.size (by simp [World.setCell]) (Nat.le_refl _)) (fun y e => by obtain rfl := Option.some.inj e; exact ⟨fun e => by have := HWB2.out.b.gblk_lt e; simp at this, by have := HWB2.out.f.1; show w2.heap.size ≠ g2; omega⟩) (by omega) (fun b hb => (by (repeat (first | with_reducible exact Kp.refl _ _ | (with_reducible refine Kp.rng ?_ (by assumption) ?_) | (with_reducible refine Kp.below ?_ (by assumption)) | (with_reducible refine Kp.grown ?_ (by assumption) ?_) | (with_reducible refine Kp.alloc ?_ _) | (with_reducible refine Kp.drew ?_) | (with_reducible refine Kp.drewN ?_ _) | (with_reducible refine Kp.setCell ?_ _ ?_))) <;> (first | omega | (simp; done) | (simp; omega)))) (by (repeat (first | with_reducible exact Below.refl _ _ | (with_reducible refine bel_next ?_ ?_ (by assumption)) | (with_reducible refine Below.alloc ?_ ?_ _) | (with_reducible refine Below.drew ?_) | (with_reducible refine below_drewN ?_ _) | (with_reducible refine Below.setCell ?_ ?_ _))) <;> (first | omega | (simp; done) | (simp; omega) | (simp [World.setCell]; omega)))
  · go_wp2_with fail
    refine (l01In_any _ _ _ _).mono ?_
    rintro e _ ⟨rfl, rfl⟩
    cases hi : inB n0 0 15
    · have e1 : PG = gs := by rw [HPG.out, show (roomB gs os && inB n0 0 15) = false from by simp [hi]]; rfl
      have e2 : PW = [] := by rw [HPW.out, show (roomB gs os && inB n0 0 15) = false from by simp [hi]]; rfl
      have HE1 := Lib.hid e1
      have HE2 := Lib.hid e2
      clear e1 e2
      obtain ⟨adR, capR, hcR, _, _⟩ := HWB2.out.b.row
      have hc1R := HWB2.out.b.snd
      have hlR := HWB2.out.l
      go_wp2_with fail
      refine bodyPost_ret (v := .tuple #[.agg #[.slice adR gs.length capR, .slice (some ⟨g2, 0, none⟩) os.length d2], .slice (some ⟨w2.heap.size, 0, none⟩) 0 0]) (by simp [results, Try.results13, go_sem, *]) rfl ?_
      rw [HE1.out, HE2.out]
      exact HWB2.out.postW hcR rfl (own_last _ _ _ _ w2.heap.size (by simp [World.setCell]) (Nat.le_refl _)) (fun y e => by obtain rfl := Option.some.inj e; exact ⟨fun e => by have := HWB2.out.b.gblk_lt e; simp at this, by have := HWB2.out.f.1; show w2.heap.size ≠ g2; omega⟩) (by omega) (fun b hb => (by (repeat (first | with_reducible exact Kp.refl _ _ | (with_reducible refine Kp.rng ?_ (by assumption) ?_) | (with_reducible refine Kp.below ?_ (by assumption)) | (with_reducible refine Kp.grown ?_ (by assumption) ?_) | (with_reducible refine Kp.alloc ?_ _) | (with_reducible refine Kp.drew ?_) | (with_reducible refine Kp.drewN ?_ _) | (with_reducible refine Kp.setCell ?_ _ ?_))) <;> (first | omega | (simp; done) | (simp; omega)))) (by (repeat (first | with_reducible exact Below.refl _ _ | (with_reducible refine bel_next ?_ ?_ (by assumption)) | (with_reducible refine Below.alloc ?_ ?_ _) | (with_reducible refine Below.drew ?_) | (with_reducible refine below_drewN ?_ _) | (with_reducible refine Below.setCell ?_ ?_ _))) <;> (first | omega | (simp; done) | (simp; omega) | (simp [World.setCell]; omega)))
    · have e1 : PG = (constP n0 gs).1 := by rw [HPG.out, show (roomB gs os && inB n0 0 15) = true from by simp [roomB, hc, h59, hi]]; rfl
      have e2 : PW = (constP n0 gs).2 := by rw [HPW.out, show (roomB gs os && inB n0 0 15) = true from by simp [roomB, hc, h59, hi]]; rfl
      have HE1 := Lib.hid e1
      have HE2 := Lib.hid e2
      clear e1 e2
      have hi2 := hi
      simp [inB] at hi2
      go_wp2_with fail
      refine (l14Const_any gs n0 (by omega) (by omega) _ _ bx _ HWB2.out.b (by omega)).mono ?_
      rintro e w3 ⟨h3, c3, rfl, hs3⟩
      have HWB3 := Lib.hid (HWB2.out.on hs3.b hs3.r hs3.l)
      have k3_0 := Fr.cell hs3.r (HWB2.out.b.frn_lo (by omega)) k2_0
      have k3_1 := Fr.cell hs3.r (HWB2.out.b.frn_lo (by omega)) k2_1
      have k3_2 := Fr.cell hs3.r (HWB2.out.b.frn_lo (by omega)) k2_2
      have k3_3 := Fr.cell hs3.r (HWB2.out.b.frn_lo (by omega)) k2_3
      have f3_0 := Fr.free hs3.r (HWB2.out.b.frn_lo (by omega)) f2_0
      have f3_1 := Fr.free hs3.r (HWB2.out.b.frn_lo (by omega)) f2_1
      clear k2_0 k2_1 k2_2 k2_3 f2_0 f2_1
      have HS3 := Lib.hid hs3
      clear hs3
      obtain ⟨adR, capR, hcR, _, _⟩ := HWB3.out.b.row
      have hc1R := HWB3.out.b.snd
      have hlR := HWB3.out.l
      go_wp2_with fail
      refine bodyPost_ret (v := .tuple #[.agg #[.slice adR (constP n0 gs).1.length capR, .slice (some ⟨g2, 0, none⟩) os.length d2], .slice (some ⟨h3, 0, none⟩) 4 c3]) (by simp [results, Try.results13, go_sem, *]) rfl ?_
      rw [HE1.out, HE2.out]
      exact HWB3.out.postW hcR (by have := HS3.out.o.len; simpa using this.symm) (by have h1 := HS3.out.ge; have h2 := HWB2.out.b.le; exact HS3.out.o.later (by (repeat (first | with_reducible exact Kp.refl _ _ | (with_reducible refine Kp.rng ?_ (by assumption) ?_) | (with_reducible refine Kp.below ?_ (by assumption)) | (with_reducible refine Kp.grown ?_ (by assumption) ?_) | (with_reducible refine Kp.alloc ?_ _) | (with_reducible refine Kp.drew ?_) | (with_reducible refine Kp.drewN ?_ _) | (with_reducible refine Kp.setCell ?_ _ ?_))) <;> (first | omega | (simp; done) | (simp; omega)))) (fun y e => by obtain rfl := Option.some.inj e; exact ⟨HS3.out.f.2.2, by have h1 := HS3.out.ge; have h2 := HWB2.out.f.1; show h3 ≠ g2; omega⟩) (by have := HWB2.out.b.le; omega) (fun b hb => (by (repeat (first | with_reducible exact Kp.refl _ _ | (with_reducible refine Kp.rng ?_ (by assumption) ?_) | (with_reducible refine Kp.below ?_ (by assumption)) | (with_reducible refine Kp.grown ?_ (by assumption) ?_) | (with_reducible refine Kp.alloc ?_ _) | (with_reducible refine Kp.drew ?_) | (with_reducible refine Kp.drewN ?_ _) | (with_reducible refine Kp.setCell ?_ _ ?_))) <;> (first | omega | (simp; done) | (simp; omega)))) (by (repeat (first | with_reducible exact Below.refl _ _ | (with_reducible refine bel_next ?_ ?_ (by assumption)) | (with_reducible refine Below.alloc ?_ ?_ _) | (with_reducible refine Below.drew ?_) | (with_reducible refine below_drewN ?_ _) | (with_reducible refine Below.setCell ?_ ?_ _))) <;> (first | omega | (simp; done) | (simp; omega)))
end Go.Proofs.Ytfcijloiebnloaa

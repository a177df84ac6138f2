/- Prune, the program. -/
import Derived.Test.YtfpblgbokmpmjaaPruneD
import Derived.Deep.RegionHeld3
import Derived.Deep.RegionLaw
namespace Go.Proofs.Ytfpblgbokmpmjaa
open Go.RowKit
set_option linter.unusedVariables false
set_option linter.unusedSimpArgs false

set_option maxRecDepth 20000 in
set_option maxHeartbeats 16000000 in
theorem iPrune_any (gs : List Gt) (os : List Int) (a1 a2 : Option Addr) (c1 c2 : Nat) (w : World) (hm : gs.length ≤ 1048576) (hm2 : os.length ≤ 1048576) (hr : RdC w a1 (gtCells gs)) (hr2 : RdC w a2 (I64 os)) :
    Calls Try.prog 38 #[.agg #[.slice a1 gs.length c1, .slice a2 os.length c2]] w fun e w' => ∃ b1 d1 b2 d2, e = .returned (.agg #[.slice b1 (prG gs os).length d1, .slice b2 (prO gs os).length d2]) ∧
      Own w' w.heap.size 50 3 b1 (prG gs os).length d1 (gtCells (prG gs os)) ∧ Own w' w.heap.size 3 1 b2 (prO gs os).length d2 (I64 (prO gs os)) ∧ (∀ x y, b1 = some x → b2 = some y → x.block ≠ y.block) ∧ Below w.heap.size w w' := by
  have HR := Lib.hid hr
  have HR2 := Lib.hid hr2
  clear hr hr2
  have nH : w.heap.size ≠ w.heap.size + 1 := by omega
  cases hc : circOk gs os
  · have HC := Lib.hid hc
    rw [show prG gs os = gs by simp [prG, hc], show prO gs os = os by simp [prO, hc]]
    clear hc
    go_enter Try.func38, Try.ntmps38
    go_wp2_with fail
    refine (iCircuitOk_any gs os _ _ _ _ _ hm hm2 (HR.out.below (by (repeat (first | with_reducible exact Below.refl _ _ | (with_reducible refine bel_next ?_ ?_ (by assumption)) | (with_reducible refine Below.alloc ?_ ?_ _) | (with_reducible refine Below.drew ?_) | (with_reducible refine below_drewN ?_ _) | (with_reducible refine Below.setCell ?_ ?_ _))) <;> (first | omega | (simp; done) | (simp; omega)))) (HR2.out.below (by (repeat (first | with_reducible exact Below.refl _ _ | (with_reducible refine bel_next ?_ ?_ (by assumption)) | (with_reducible refine Below.alloc ?_ ?_ _) | (with_reducible refine Below.drew ?_) | (with_reducible refine below_drewN ?_ _) | (with_reducible refine Below.setCell ?_ ?_ _))) <;> (first | omega | (simp; done) | (simp; omega))))).mono ?_
    rintro e w1 ⟨rfl, hb1⟩
    rw [HC.out]
    have z1 := hb1.size
    (try simp at z1)
    have y1a : w.heap.size < w1.heap.size := (by omega)
    have y1b : w.heap.size + 1 < w1.heap.size := (by omega)
    have k1_0 := bel_keeps hb1 (b := w.heap.size) (o := 0) (v := .slice a1 gs.length c1) (by first | (go_simp; done) | assumption)
    have k1_1 := bel_keeps hb1 (b := w.heap.size) (o := 1) (v := .slice a2 os.length c2) (by first | (go_simp; done) | assumption)
    have k1_2 := bel_keeps hb1 (b := w.heap.size + 1) (o := 0) (v := .slice none 0 0) (by first | (go_simp; done) | assumption)
    have k1_3 := bel_keeps hb1 (b := w.heap.size + 1) (o := 1) (v := .slice none 0 0) (by first | (go_simp; done) | assumption)
    have f1_0 := bel_free hb1 (b := w.heap.size + 1) (o := 0) (by first | omega | (simp; done) | (simp; omega)) (by first | (go_simp; done) | assumption)
    have f1_1 := bel_free hb1 (b := w.heap.size + 1) (o := 1) (by first | omega | (simp; done) | (simp; omega)) (by first | (go_simp; done) | assumption)
    go_wp2_with fail
    refine (copyCircuit_any gs os _ _ _ _ _ hm hm2 (HR.out.below (by (repeat (first | with_reducible exact Below.refl _ _ | (with_reducible refine bel_next ?_ ?_ (by assumption)) | (with_reducible refine Below.alloc ?_ ?_ _) | (with_reducible refine Below.drew ?_) | (with_reducible refine below_drewN ?_ _) | (with_reducible refine Below.setCell ?_ ?_ _))) <;> (first | omega | (simp; done) | (simp; omega)))) (HR2.out.below (by (repeat (first | with_reducible exact Below.refl _ _ | (with_reducible refine bel_next ?_ ?_ (by assumption)) | (with_reducible refine Below.alloc ?_ ?_ _) | (with_reducible refine Below.drew ?_) | (with_reducible refine below_drewN ?_ _) | (with_reducible refine Below.setCell ?_ ?_ _))) <;> (first | omega | (simp; done) | (simp; omega))))).mono ?_
    rintro e w2 ⟨g1, d1, g2, d2, rfl, ho1, ho2, hne, hb2⟩
    have z2 := hb2.size
    have ge1 := ho1.ge
    have ge2 := ho2.ge
    have y2a : w.heap.size < w2.heap.size := (by omega)
    have y2b : w.heap.size + 1 < w2.heap.size := (by omega)
    have k2_0 := bel_keeps hb2 (b := w.heap.size) (o := 0) (v := .slice a1 gs.length c1) (by first | (go_simp; done) | assumption)
    have k2_1 := bel_keeps hb2 (b := w.heap.size) (o := 1) (v := .slice a2 os.length c2) (by first | (go_simp; done) | assumption)
    have k2_2 := bel_keeps hb2 (b := w.heap.size + 1) (o := 0) (v := .slice none 0 0) (by first | (go_simp; done) | assumption)
    have k2_3 := bel_keeps hb2 (b := w.heap.size + 1) (o := 1) (v := .slice none 0 0) (by first | (go_simp; done) | assumption)
    have f2_0 := bel_free hb2 (b := w.heap.size + 1) (o := 0) (by first | omega | (simp; done) | (simp; omega)) (by first | (go_simp; done) | assumption)
    have f2_1 := bel_free hb2 (b := w.heap.size + 1) (o := 1) (by first | omega | (simp; done) | (simp; omega)) (by first | (go_simp; done) | assumption)
    clear k1_0 k1_1 k1_2 k1_3 f1_0 f1_1
    go_wp2_with fail
    refine bodyPost_ret (v := .agg #[.slice (some ⟨g1, 0, none⟩) gs.length d1, .slice (some ⟨g2, 0, none⟩) os.length d2]) (by simp [results, Try.results38, go_sem, *]) rfl ?_
    exact ⟨_, d1, _, d2, rfl, (ho1.lo (by omega)).later (by (repeat (first | with_reducible exact Kp.refl _ _ | (with_reducible refine Kp.rng ?_ (by assumption) ?_) | (with_reducible refine Kp.below ?_ (by assumption)) | (with_reducible refine Kp.grown ?_ (by assumption) ?_) | (with_reducible refine Kp.alloc ?_ _) | (with_reducible refine Kp.drew ?_) | (with_reducible refine Kp.drewN ?_ _) | (with_reducible refine Kp.setCell ?_ _ ?_))) <;> (first | omega | (simp; done) | (simp; omega))), (ho2.lo (by omega)).later (by (repeat (first | with_reducible exact Kp.refl _ _ | (with_reducible refine Kp.rng ?_ (by assumption) ?_) | (with_reducible refine Kp.below ?_ (by assumption)) | (with_reducible refine Kp.grown ?_ (by assumption) ?_) | (with_reducible refine Kp.alloc ?_ _) | (with_reducible refine Kp.drew ?_) | (with_reducible refine Kp.drewN ?_ _) | (with_reducible refine Kp.setCell ?_ _ ?_))) <;> (first | omega | (simp; done) | (simp; omega))), fun x y hx hy => by (obtain rfl := Option.some.inj hx; obtain rfl := Option.some.inj hy; exact hne), (by (repeat (first | with_reducible exact Below.refl _ _ | (with_reducible refine bel_next ?_ ?_ (by assumption)) | (with_reducible refine Below.alloc ?_ ?_ _) | (with_reducible refine Below.drew ?_) | (with_reducible refine below_drewN ?_ _) | (with_reducible refine Below.setCell ?_ ?_ _))) <;> (first | omega | (simp; done) | (simp; omega)))⟩
  have HC := Lib.hid hc
  have hm6 : gs.length ≤ 6000 := (circ_parts hc).2.2
  rw [show prG gs os = pruneG gs os by simp [prG, hc], show prO gs os = pruneO gs os by simp [prO, hc]]
  clear hc
  obtain ⟨i1, hi1, hz10, hz11, hz12⟩ := info_parts info_int
  go_enter Try.func38, Try.ntmps38
  go_wp2_with fail
  refine (iCircuitOk_any gs os _ _ _ _ _ hm hm2 (HR.out.below (by (repeat (first | with_reducible exact Below.refl _ _ | (with_reducible refine bel_next ?_ ?_ (by assumption)) | (with_reducible refine Below.alloc ?_ ?_ _) | (with_reducible refine Below.drew ?_) | (with_reducible refine below_drewN ?_ _) | (with_reducible refine Below.setCell ?_ ?_ _))) <;> (first | omega | (simp; done) | (simp; omega)))) (HR2.out.below (by (repeat (first | with_reducible exact Below.refl _ _ | (with_reducible refine bel_next ?_ ?_ (by assumption)) | (with_reducible refine Below.alloc ?_ ?_ _) | (with_reducible refine Below.drew ?_) | (with_reducible refine below_drewN ?_ _) | (with_reducible refine Below.setCell ?_ ?_ _))) <;> (first | omega | (simp; done) | (simp; omega))))).mono ?_
  rintro e w1 ⟨rfl, hb1⟩
  rw [HC.out]
  have z1 := hb1.size
  (try simp at z1)
  have y1a : w.heap.size < w1.heap.size := (by omega)
  have y1b : w.heap.size + 1 < w1.heap.size := (by omega)
  have k1_0 := bel_keeps hb1 (b := w.heap.size) (o := 0) (v := .slice a1 gs.length c1) (by first | (go_simp; done) | assumption)
  have k1_1 := bel_keeps hb1 (b := w.heap.size) (o := 1) (v := .slice a2 os.length c2) (by first | (go_simp; done) | assumption)
  have k1_2 := bel_keeps hb1 (b := w.heap.size + 1) (o := 0) (v := .slice none 0 0) (by first | (go_simp; done) | assumption)
  have k1_3 := bel_keeps hb1 (b := w.heap.size + 1) (o := 1) (v := .slice none 0 0) (by first | (go_simp; done) | assumption)
  have f1_0 := bel_free hb1 (b := w.heap.size + 1) (o := 0) (by first | omega | (simp; done) | (simp; omega)) (by first | (go_simp; done) | assumption)
  have f1_1 := bel_free hb1 (b := w.heap.size + 1) (o := 1) (by first | omega | (simp; done) | (simp; omega)) (by first | (go_simp; done) | assumption)
  obtain ⟨i0, hi, hz0, hz1, hz2⟩ := info_parts info_bool
  go_wp2_with (at_make; refine wpList_make_full _ rfl _ _ 52 rfl w.heap.size 4 i0 (.bool false) 1 Try.underlying52 hi hz0 hz1 .i64 .i64 _ _ gs.length rfl rfl rfl rfl ?b2 ?b3 ?b4 ?_)
  case b2 => rw [hz2]; omega
  case b3 => unfold maxLen; omega
  case b4 => first | omega | (simp; omega)
  intro w2 hown1 hgr1
  (try simp at hown1)
  have hb2 : Below w1.heap.size w1 w2 := (Below.refl _ _).grown hgr1 (Nat.le_refl _) (by simp)
  rw [made_bools] at hown1
  have z2 := hgr1.size
  have y2a : w.heap.size < w2.heap.size := (by omega)
  have y2b : w.heap.size + 1 < w2.heap.size := (by omega)
  have k2_0 := bel_keeps hb2 (b := w.heap.size) (o := 0) (v := .slice a1 gs.length c1) (by first | (go_simp; done) | assumption)
  have k2_1 := bel_keeps hb2 (b := w.heap.size) (o := 1) (v := .slice a2 os.length c2) (by first | (go_simp; done) | assumption)
  have k2_2 := bel_keeps hb2 (b := w.heap.size + 1) (o := 0) (v := .slice none 0 0) (by first | (go_simp; done) | assumption)
  have k2_3 := bel_keeps hb2 (b := w.heap.size + 1) (o := 1) (v := .slice none 0 0) (by first | (go_simp; done) | assumption)
  have f2_0 := bel_free hb2 (b := w.heap.size + 1) (o := 0) (by first | omega | (simp; done) | (simp; omega)) (by first | (go_simp; done) | assumption)
  have f2_1 := bel_free hb2 (b := w.heap.size + 1) (o := 1) (by first | omega | (simp; done) | (simp; omega)) (by first | (go_simp; done) | assumption)
  clear k1_0 k1_1 k1_2 k1_3 f1_0 f1_1
  obtain ⟨gl, hgl⟩ : ∃ g, g = w1.heap.size := ⟨_, rfl⟩
  rw [← hgl] at hown1
  rw [← hgl]
  have xH : w.heap.size + 1 < gl := by omega
  have hown2 : Own w2 w.heap.size 4 1 (some ⟨gl, 0, none⟩) gs.length gs.length (BL (live0 gs.length (os.take 0))) := hown1
  have hgz := hown2.ge
  have hbw2 : Below w.heap.size w w2 := (by (repeat (first | with_reducible exact Below.refl _ _ | (with_reducible refine bel_next ?_ ?_ (by assumption)) | (with_reducible refine Below.alloc ?_ ?_ _) | (with_reducible refine Below.drew ?_) | (with_reducible refine below_drewN ?_ _) | (with_reducible refine Below.setCell ?_ ?_ _))) <;> (first | omega | (simp; done) | (simp; omega)))
  clear hgl hown1 hgr1 hb1 hb2
  go_wp2_with fail
  go_loopw [26] (fun i wr => ∃ k : Nat, k ≤ os.length ∧ i = .int .i64 k ∧ wr.cell? ⟨w.heap.size, 0, none⟩ = some (.slice a1 gs.length c1) ∧ wr.cell? ⟨w.heap.size, 1, none⟩ = some (.slice a2 os.length c2) ∧ wr.cell? ⟨w.heap.size + 1, 0, none⟩ = some (.slice none 0 0) ∧ wr.cell? ⟨w.heap.size + 1, 1, none⟩ = some (.slice none 0 0) ∧ wr.frozen? ⟨w.heap.size + 1, 0, none⟩ = false ∧ wr.frozen? ⟨w.heap.size + 1, 1, none⟩ = false ∧
      Own wr w.heap.size 4 1 (some ⟨gl, 0, none⟩) gs.length gs.length (BL (live0 gs.length (os.take k))) ∧ Below w.heap.size w wr) (fun i _ => os.length - (intOf i).toNat)
  case atStart => exact ⟨0, Nat.zero_le _, rfl, k2_0, k2_1, k2_2, k2_3, f2_0, f2_1, hown2, hbw2⟩
  case round =>
    clear hown2 hbw2 k2_0 k2_1 k2_2 k2_3 f2_0 f2_1 z1 z2 hgz y1a y1b y2a y2b
    obtain ⟨k, hk, rfl, k2_0, k2_1, k2_2, k2_3, f2_0, f2_1, hown, hbw⟩ := hrel
    have HO := Lib.hid hown
    have zr := hbw.size
    have gr := hown.ge
    have na : w.heap.size ≠ wr.heap.size := by omega
    have nb : gl ≠ wr.heap.size := by omega
    have nc : w.heap.size < wr.heap.size := by omega
    have nd : gl < wr.heap.size := by omega
    have ne : w.heap.size + 1 ≠ wr.heap.size := by omega
    have nf : w.heap.size + 1 < wr.heap.size := by omega
    clear hown
    by_cases hlt : k < os.length
    · obtain ⟨b, off, rfl, hcell⟩ := (HR2.out.below hbw).at k hlt
      have hc := hcell k hlt
      have hlt' : (k : Int) < (os.length : Int) := by omega
      have hy := outs_at HC.out hlt
      have HN := Lib.hid (live0_snoc gs.length hlt)
      obtain ⟨y, hyy⟩ : ∃ y, y = os[k] := ⟨_, rfl⟩
      rw [← hyy] at hc hy HN
      clear hyy hcell
      obtain ⟨m, rfl⟩ := Int.eq_ofNat_of_zero_le hy.1
      have hm1 : m < gs.length := by omega
      obtain ⟨e1, e2⟩ := HO.out.bool m (by simpa using hm1)
      have hbb := lt_of_cell hc
      simp only at hbb
      rw [Int.toNat_natCast] at HN
      go_wp2_with fail
      go_roundw
      case rel =>
        refine ⟨k + 1, by omega, by go_num, (by first | (go_simp; done) | assumption), (by first | (go_simp; done) | assumption), (by first | (go_simp; done) | assumption), (by first | (go_simp; done) | assumption), (by first | (go_simp; done) | assumption), (by first | (go_simp; done) | assumption), ?_, (by (repeat (first | with_reducible exact Below.refl _ _ | (with_reducible refine bel_next ?_ ?_ (by assumption)) | (with_reducible refine Below.alloc ?_ ?_ _) | (with_reducible refine Below.drew ?_) | (with_reducible refine below_drewN ?_ _) | (with_reducible refine Below.setCell ?_ ?_ _))) <;> (first | omega | (simp; done) | (simp; omega)))⟩
        rw [HN.out]; exact HO.out.putB m true
      case measure => first | (simp [intOf]; done) | (simp [intOf]; omega)
    · have HK : Hid (live0 gs.length (os.take k) = live0 gs.length os) := by show _ = _; rw [List.take_of_length_le (by omega)]
      rw [HK.out] at HO
      have hlt' : ¬ (k : Int) < (os.length : Int) := by omega
      go_wp2_with fail
      go_loopw [6] (fun i w2 => ∃ (k : Nat) (l : List Bool), k ≤ gs.length ∧ i = .int .i64 ((k : Int) - 1) ∧ w2.cell? ⟨w.heap.size, 0, none⟩ = some (.slice a1 gs.length c1) ∧ w2.cell? ⟨w.heap.size, 1, none⟩ = some (.slice a2 os.length c2) ∧ w2.cell? ⟨w.heap.size + 1, 0, none⟩ = some (.slice none 0 0) ∧ w2.cell? ⟨w.heap.size + 1, 1, none⟩ = some (.slice none 0 0) ∧ w2.frozen? ⟨w.heap.size + 1, 0, none⟩ = false ∧ w2.frozen? ⟨w.heap.size + 1, 1, none⟩ = false ∧ l.length = gs.length ∧ liveD gs k l = liveL gs os ∧
          Own w2 w.heap.size 4 1 (some ⟨gl, 0, none⟩) gs.length gs.length (BL l) ∧ Below w.heap.size w w2) (fun i _ => (intOf i + 1).toNat)
      case atStart => exact ⟨gs.length, live0 gs.length os, Nat.le_refl _, by go_num, k2_0, k2_1, k2_2, k2_3, f2_0, f2_1, by simp, rfl, HO.out, hbw⟩
      case round =>
        clear k2_0 k2_1 k2_2 k2_3 f2_0 f2_1 zr gr HO HK hbw hlt' hlt na nb nc nd ne nf
        obtain ⟨k, l, hk2, rfl, k2_0, k2_1, k2_2, k2_3, f2_0, f2_1, hll, hlive, hown, hbw⟩ := hrel
        have HO := Lib.hid hown
        have HLL := Lib.hid hll
        have HLV := Lib.hid hlive
        have zr := hbw.size
        have gr := hown.ge
        have na : w.heap.size ≠ wr.heap.size := by omega
        have nb : gl ≠ wr.heap.size := by omega
        have nc : w.heap.size < wr.heap.size := by omega
        have nd : gl < wr.heap.size := by omega
        have ne : w.heap.size + 1 ≠ wr.heap.size := by omega
        have nf : w.heap.size + 1 < wr.heap.size := by omega
        clear hown hll hlive
        cases k with
        | succ j =>
          have hle : ((j + 1 : Nat) : Int) - 1 = j := by omega
          rw [hle]
          clear hle
          have hj : j < gs.length := by omega
          obtain ⟨b, off, kd, ga, gb, rfl, hbl, hx, c0, c1', c2'⟩ := (HR.out.below hbw).gt j hj
          have hgk : gateOk kd ga gb j = true := gates_at HC.out hx
          have HX := Lib.hid hx
          have HST : Hid (liveD gs (j + 1) l = liveD gs j (liveStep l ⟨kd, ga, gb⟩ (bat l j))) := liveD_step l hx
          have hj' : (j : Int) < (gs.length : Int) := by omega
          obtain ⟨e1, e2⟩ := HO.out.bool j (by have := HLL.out; omega)
          clear hx
          have gcs := gate_cases hgk
          clear hgk
          cases hon : bat l j
          · rw [hon] at e1 HST
            go_wp2_with fail
            go_roundw
            case rel => exact ⟨j, l, by omega, by go_num, (by first | (go_simp; done) | assumption), (by first | (go_simp; done) | assumption), (by first | (go_simp; done) | assumption), (by first | (go_simp; done) | assumption), (by first | (go_simp; done) | assumption), (by first | (go_simp; done) | assumption), by first | exact HLL.out | (simp; exact HLL.out), by first | exact HST.out.symm.trans HLV.out | (have hq := HST.out.symm.trans HLV.out; simpa [liveStep, usesA, usesB] using hq), HO.out.alloc _, (by (repeat (first | with_reducible exact Below.refl _ _ | (with_reducible refine bel_next ?_ ?_ (by assumption)) | (with_reducible refine Below.alloc ?_ ?_ _) | (with_reducible refine Below.drew ?_) | (with_reducible refine below_drewN ?_ _) | (with_reducible refine Below.setCell ?_ ?_ _))) <;> (first | omega | (simp; done) | (simp; omega)))⟩
            case measure => first | (simp [intOf]; done) | (simp [intOf]; omega)
          · rw [hon] at e1 HST
            rcases gcs with ⟨rfl, rfl, q1, q2⟩ | ⟨rfl, rfl, q1, q2⟩ | ⟨rfl, q1, q2, q3, q4⟩ | ⟨rfl, q1, q2, q3, q4⟩ | ⟨rfl, rfl, q1, q2⟩
            · go_wp2_with fail
              go_roundw
              case rel => exact ⟨j, l, by omega, by go_num, (by first | (go_simp; done) | assumption), (by first | (go_simp; done) | assumption), (by first | (go_simp; done) | assumption), (by first | (go_simp; done) | assumption), (by first | (go_simp; done) | assumption), (by first | (go_simp; done) | assumption), by first | exact HLL.out | (simp; exact HLL.out), by first | exact HST.out.symm.trans HLV.out | (have hq := HST.out.symm.trans HLV.out; simpa [liveStep, usesA, usesB] using hq), HO.out.alloc _, (by (repeat (first | with_reducible exact Below.refl _ _ | (with_reducible refine bel_next ?_ ?_ (by assumption)) | (with_reducible refine Below.alloc ?_ ?_ _) | (with_reducible refine Below.drew ?_) | (with_reducible refine below_drewN ?_ _) | (with_reducible refine Below.setCell ?_ ?_ _))) <;> (first | omega | (simp; done) | (simp; omega)))⟩
              case measure => first | (simp [intOf]; done) | (simp [intOf]; omega)
            · go_wp2_with fail
              go_roundw
              case rel => exact ⟨j, l, by omega, by go_num, (by first | (go_simp; done) | assumption), (by first | (go_simp; done) | assumption), (by first | (go_simp; done) | assumption), (by first | (go_simp; done) | assumption), (by first | (go_simp; done) | assumption), (by first | (go_simp; done) | assumption), by first | exact HLL.out | (simp; exact HLL.out), by first | exact HST.out.symm.trans HLV.out | (have hq := HST.out.symm.trans HLV.out; simpa [liveStep, usesA, usesB] using hq), HO.out.alloc _, (by (repeat (first | with_reducible exact Below.refl _ _ | (with_reducible refine bel_next ?_ ?_ (by assumption)) | (with_reducible refine Below.alloc ?_ ?_ _) | (with_reducible refine Below.drew ?_) | (with_reducible refine below_drewN ?_ _) | (with_reducible refine Below.setCell ?_ ?_ _))) <;> (first | omega | (simp; done) | (simp; omega)))⟩
              case measure => first | (simp [intOf]; done) | (simp [intOf]; omega)
            · obtain ⟨n, rfl⟩ := Int.eq_ofNat_of_zero_le q1
              obtain ⟨g1, g2⟩ := HO.out.bool n (by have := HLL.out; omega)
              have n1 : n ≠ j := by omega
              have n2 : j ≠ n := by omega
              have n3 : (n : Int) < (gs.length : Int) := by omega
              obtain ⟨m, rfl⟩ := Int.eq_ofNat_of_zero_le q3
              obtain ⟨h1, h2⟩ := HO.out.bool m (by have := HLL.out; omega)
              have m1 : m ≠ j := by omega
              have m2 : j ≠ m := by omega
              have m3 : (m : Int) < (gs.length : Int) := by omega
              by_cases hnm : m = n
              · subst hnm
                go_wp2_with fail
                go_roundw
                case rel => exact ⟨j, (l.set m true).set m true, by omega, by go_num, (by first | (go_simp; done) | assumption), (by first | (go_simp; done) | assumption), (by first | (go_simp; done) | assumption), (by first | (go_simp; done) | assumption), (by first | (go_simp; done) | assumption), (by first | (go_simp; done) | assumption), by first | exact HLL.out | (simp; exact HLL.out), by first | exact HST.out.symm.trans HLV.out | (have hq := HST.out.symm.trans HLV.out; simpa [liveStep, usesA, usesB] using hq), ((HO.out.putB m true).putB m true).alloc _, (by (repeat (first | with_reducible exact Below.refl _ _ | (with_reducible refine bel_next ?_ ?_ (by assumption)) | (with_reducible refine Below.alloc ?_ ?_ _) | (with_reducible refine Below.drew ?_) | (with_reducible refine below_drewN ?_ _) | (with_reducible refine Below.setCell ?_ ?_ _))) <;> (first | omega | (simp; done) | (simp; omega)))⟩
                case measure => first | (simp [intOf]; done) | (simp [intOf]; omega)
              · have hmn : ¬ n = m := fun e => hnm e.symm
                go_wp2_with fail
                go_roundw
                case rel => exact ⟨j, (l.set n true).set m true, by omega, by go_num, (by first | (go_simp; done) | assumption), (by first | (go_simp; done) | assumption), (by first | (go_simp; done) | assumption), (by first | (go_simp; done) | assumption), (by first | (go_simp; done) | assumption), (by first | (go_simp; done) | assumption), by first | exact HLL.out | (simp; exact HLL.out), by first | exact HST.out.symm.trans HLV.out | (have hq := HST.out.symm.trans HLV.out; simpa [liveStep, usesA, usesB] using hq), ((HO.out.putB n true).putB m true).alloc _, (by (repeat (first | with_reducible exact Below.refl _ _ | (with_reducible refine bel_next ?_ ?_ (by assumption)) | (with_reducible refine Below.alloc ?_ ?_ _) | (with_reducible refine Below.drew ?_) | (with_reducible refine below_drewN ?_ _) | (with_reducible refine Below.setCell ?_ ?_ _))) <;> (first | omega | (simp; done) | (simp; omega)))⟩
                case measure => first | (simp [intOf]; done) | (simp [intOf]; omega)
            · obtain ⟨n, rfl⟩ := Int.eq_ofNat_of_zero_le q1
              obtain ⟨g1, g2⟩ := HO.out.bool n (by have := HLL.out; omega)
              have n1 : n ≠ j := by omega
              have n2 : j ≠ n := by omega
              have n3 : (n : Int) < (gs.length : Int) := by omega
              obtain ⟨m, rfl⟩ := Int.eq_ofNat_of_zero_le q3
              obtain ⟨h1, h2⟩ := HO.out.bool m (by have := HLL.out; omega)
              have m1 : m ≠ j := by omega
              have m2 : j ≠ m := by omega
              have m3 : (m : Int) < (gs.length : Int) := by omega
              by_cases hnm : m = n
              · subst hnm
                go_wp2_with fail
                go_roundw
                case rel => exact ⟨j, (l.set m true).set m true, by omega, by go_num, (by first | (go_simp; done) | assumption), (by first | (go_simp; done) | assumption), (by first | (go_simp; done) | assumption), (by first | (go_simp; done) | assumption), (by first | (go_simp; done) | assumption), (by first | (go_simp; done) | assumption), by first | exact HLL.out | (simp; exact HLL.out), by first | exact HST.out.symm.trans HLV.out | (have hq := HST.out.symm.trans HLV.out; simpa [liveStep, usesA, usesB] using hq), ((HO.out.putB m true).putB m true).alloc _, (by (repeat (first | with_reducible exact Below.refl _ _ | (with_reducible refine bel_next ?_ ?_ (by assumption)) | (with_reducible refine Below.alloc ?_ ?_ _) | (with_reducible refine Below.drew ?_) | (with_reducible refine below_drewN ?_ _) | (with_reducible refine Below.setCell ?_ ?_ _))) <;> (first | omega | (simp; done) | (simp; omega)))⟩
                case measure => first | (simp [intOf]; done) | (simp [intOf]; omega)
              · have hmn : ¬ n = m := fun e => hnm e.symm
                go_wp2_with fail
                go_roundw
                case rel => exact ⟨j, (l.set n true).set m true, by omega, by go_num, (by first | (go_simp; done) | assumption), (by first | (go_simp; done) | assumption), (by first | (go_simp; done) | assumption), (by first | (go_simp; done) | assumption), (by first | (go_simp; done) | assumption), (by first | (go_simp; done) | assumption), by first | exact HLL.out | (simp; exact HLL.out), by first | exact HST.out.symm.trans HLV.out | (have hq := HST.out.symm.trans HLV.out; simpa [liveStep, usesA, usesB] using hq), ((HO.out.putB n true).putB m true).alloc _, (by (repeat (first | with_reducible exact Below.refl _ _ | (with_reducible refine bel_next ?_ ?_ (by assumption)) | (with_reducible refine Below.alloc ?_ ?_ _) | (with_reducible refine Below.drew ?_) | (with_reducible refine below_drewN ?_ _) | (with_reducible refine Below.setCell ?_ ?_ _))) <;> (first | omega | (simp; done) | (simp; omega)))⟩
                case measure => first | (simp [intOf]; done) | (simp [intOf]; omega)
            · obtain ⟨n, rfl⟩ := Int.eq_ofNat_of_zero_le q1
              obtain ⟨g1, g2⟩ := HO.out.bool n (by have := HLL.out; omega)
              have n1 : n ≠ j := by omega
              have n2 : j ≠ n := by omega
              have n3 : (n : Int) < (gs.length : Int) := by omega
              go_wp2_with fail
              go_roundw
              case rel => exact ⟨j, l.set n true, by omega, by go_num, (by first | (go_simp; done) | assumption), (by first | (go_simp; done) | assumption), (by first | (go_simp; done) | assumption), (by first | (go_simp; done) | assumption), (by first | (go_simp; done) | assumption), (by first | (go_simp; done) | assumption), by first | exact HLL.out | (simp; exact HLL.out), by first | exact HST.out.symm.trans HLV.out | (have hq := HST.out.symm.trans HLV.out; simpa [liveStep, usesA, usesB] using hq), (HO.out.putB n true).alloc _, (by (repeat (first | with_reducible exact Below.refl _ _ | (with_reducible refine bel_next ?_ ?_ (by assumption)) | (with_reducible refine Below.alloc ?_ ?_ _) | (with_reducible refine Below.drew ?_) | (with_reducible refine below_drewN ?_ _) | (with_reducible refine Below.setCell ?_ ?_ _))) <;> (first | omega | (simp; done) | (simp; omega)))⟩
              case measure => first | (simp [intOf]; done) | (simp [intOf]; omega)
        | zero =>
          have hle : ((0 : Nat) : Int) - 1 = -1 := by omega
          rw [hle]
          have HF : Hid (l = liveL gs os) := HLV.out
          have HL := Lib.hid HO.out
          rw [HF.out] at HL
          clear HO HF HLL HLV hle
          go_wp2_with (at_make; refine wpList_make_full _ rfl _ _ 23 rfl w.heap.size 3 i1 (.int .i64 0) 1 Try.underlying23 hi1 hz10 hz11 .i64 .i64 _ _ gs.length rfl rfl rfl rfl ?b2 ?b3 ?b4 ?_)
          case b2 => rw [hz12]; omega
          case b3 => unfold maxLen; omega
          case b4 => first | omega | (simp; omega)
          intro w4 hown3 hgr3
          (try simp at hown3)
          rw [made_ints] at hown3
          obtain ⟨X, hX⟩ : ∃ x, x = wr.heap.size := ⟨_, rfl⟩
          obtain ⟨gt, hgt⟩ : ∃ g, g = wr.heap.size + 1 := ⟨_, rfl⟩
          have ho3 : Own w4 w.heap.size 3 1 (some ⟨wr.heap.size + 1, 0, none⟩) gs.length gs.length (I64 (prT (liveL gs os) gs 0).1) := hown3
          have ge3 := ho3.ge
          have z3 := hgr3.size
          (try simp at z3)
          clear hown3
          have q0 : w4.cell? ⟨w.heap.size, 0, none⟩ = some (.slice a1 gs.length c1) := grown_cellA hgr3 (by simp) (by go_simp)
          have q1 : w4.cell? ⟨w.heap.size, 1, none⟩ = some (.slice a2 os.length c2) := grown_cellA hgr3 (by simp) (by go_simp)
          have q2 : w4.cell? ⟨w.heap.size + 1, 0, none⟩ = some (.slice none 0 0) := grown_cellA hgr3 (by simp) (by go_simp)
          have q3 : w4.cell? ⟨w.heap.size + 1, 1, none⟩ = some (.slice none 0 0) := grown_cellA hgr3 (by simp) (by go_simp)
          have q4 : w4.cell? ⟨wr.heap.size, 0, none⟩ = some (.slice none 0 0) := grown_cellA hgr3 (by simp) (by go_simp)
          have q5 : w4.cell? ⟨wr.heap.size, 1, none⟩ = some (.slice none 0 0) := grown_cellA hgr3 (by simp) (by go_simp)
          have f0 : w4.frozen? ⟨w.heap.size + 1, 0, none⟩ = false := grown_freeA hgr3 (by simp) (by first | omega | (simp; done) | (simp; omega)) (by go_simp)
          have f1 : w4.frozen? ⟨w.heap.size + 1, 1, none⟩ = false := grown_freeA hgr3 (by simp) (by first | omega | (simp; done) | (simp; omega)) (by go_simp)
          have f2 : w4.frozen? ⟨wr.heap.size, 0, none⟩ = false := grown_freeA hgr3 (by simp) (by first | omega | (simp; done) | (simp; omega)) (by go_simp)
          have f3 : w4.frozen? ⟨wr.heap.size, 1, none⟩ = false := grown_freeA hgr3 (by simp) (by first | omega | (simp; done) | (simp; omega)) (by go_simp)
          have HL4 := Lib.hid (HL.out.later (w' := w4) (by (repeat (first | with_reducible exact Kp.refl _ _ | (with_reducible refine Kp.rng ?_ (by assumption) ?_) | (with_reducible refine Kp.below ?_ (by assumption)) | (with_reducible refine Kp.grown ?_ (by assumption) ?_) | (with_reducible refine Kp.alloc ?_ _) | (with_reducible refine Kp.drew ?_) | (with_reducible refine Kp.drewN ?_ _) | (with_reducible refine Kp.setCell ?_ _ ?_))) <;> (first | omega | (simp; done) | (simp; omega))))
          have HB4 := Lib.hid (hbw.trans (((Below.refl _ _).alloc (Nat.le_refl _) _).grown hgr3 (by simp) (by simp) |>.mono (by omega) : Below w.heap.size wr w4))
          rw [← hX] at q4 q5 f2 f3
          rw [← hgt] at ho3
          have hs : (wr.alloc (.cells #[.slice none 0 0, .slice none 0 0] 30)).heap.size = gt := by rw [hgt]; simp
          first | rw [hs, ← hX] | rw [← hgt, ← hX]
          clear hs
          have x4 : gt + 1 ≤ w4.heap.size := by omega
          have xgt : X < gt := by omega
          have xgl : gl < X := by omega
          have xH : w.heap.size + 1 < gl := by omega
          have HT4 := Lib.hid ho3
          clear hX hgt ho3 HL hgr3 k2_0 k2_1 k2_2 k2_3 f2_0 f2_1 hbw z3 ge3 zr gr na nb nc nd ne nf
          obtain ⟨LV, hLV⟩ : ∃ l, l = liveL gs os := ⟨_, rfl⟩
          have hLL : LV.length = gs.length := by rw [hLV, liveL_len]
          rw [← hLV] at HL4 HT4
          have HLL := Lib.hid hLL
          have HLV := Lib.hid hLV
          clear hLL hLV
          go_wp2_with fail
          go_loopw [81] (fun i wr => ∃ (k m cg : Nat) (ag : Option Addr) (T : List Int) (G : List Gt), k ≤ gs.length ∧ i = .int .i64 k ∧ wr.cell? ⟨w.heap.size, 0, none⟩ = some (.slice a1 gs.length c1) ∧ wr.cell? ⟨w.heap.size, 1, none⟩ = some (.slice a2 os.length c2) ∧ wr.cell? ⟨w.heap.size + 1, 0, none⟩ = some (.slice none 0 0) ∧ wr.cell? ⟨w.heap.size + 1, 1, none⟩ = some (.slice none 0 0) ∧ wr.cell? ⟨X, 0, none⟩ = some (.slice ag m cg) ∧ wr.cell? ⟨X, 1, none⟩ = some (.slice none 0 0) ∧ wr.frozen? ⟨w.heap.size + 1, 0, none⟩ = false ∧ wr.frozen? ⟨w.heap.size + 1, 1, none⟩ = false ∧ wr.frozen? ⟨X, 0, none⟩ = false ∧ wr.frozen? ⟨X, 1, none⟩ = false ∧ prT LV gs k = (T, G) ∧ G.length = m ∧
              Own wr w.heap.size 4 1 (some ⟨gl, 0, none⟩) gs.length gs.length (BL LV) ∧ Own wr w.heap.size 3 1 (some ⟨gt, 0, none⟩) gs.length gs.length (I64 T) ∧ Own wr (gt + 1) 50 3 ag m cg (gtCells G) ∧ Below w.heap.size w wr ∧ gt + 1 ≤ wr.heap.size) (fun i _ => gs.length - (intOf i).toNat)
          case atStart => exact ⟨0, 0, 0, none, _, _, Nat.zero_le _, rfl, q0, q1, q2, q3, q4, q5, f0, f1, f2, f3, rfl, rfl, HL4.out, HT4.out, Own.nil _ _ _ _, HB4.out, x4⟩
          case round =>
            clear q0 q1 q2 q3 q4 q5 f0 f1 f2 f3 HL4 HT4 HB4 x4
            obtain ⟨k, m, cg, ag, T, G, hk, rfl, q0, q1, q2, q3, q4, q5, f0, f1, f2, f3, hpr, hGm, hol, hot, hog, hbw, hxw⟩ := hrel
            have zr := hbw.size
            have HL := Lib.hid hol
            have HT := Lib.hid hot
            have HG := Lib.hid hog
            have HPR := Lib.hid hpr
            have HGM := Lib.hid hGm
            have HTL : Hid (T.length = gs.length) := by show _ = _; have := (prT_len LV gs k).1; rw [hpr] at this; exact this
            have hmk : m ≤ k := by have := (prT_len LV gs k).2; rw [hpr] at this; rw [← hGm]; exact this
            have nX : X ≠ wr.heap.size := by omega
            have nX0 : X < wr.heap.size := by omega
            have nH0 : w.heap.size < wr.heap.size := by omega
            have nH1 : w.heap.size + 1 < wr.heap.size := by omega
            have nH2 : w.heap.size ≠ wr.heap.size := by omega
            have nH3 : w.heap.size + 1 ≠ wr.heap.size := by omega
            have ngt : gt < wr.heap.size := by omega
            have ngl : gl < wr.heap.size := by omega
            have ngt' : gt ≠ wr.heap.size := by omega
            have ngl' : gl ≠ wr.heap.size := by omega
            have nXa : X ≠ w.heap.size := by omega
            have nXb : X ≠ w.heap.size + 1 := by omega
            have nXc : gt ≠ X := by omega
            have nXd : gl ≠ X := by omega
            have nXe : gl ≠ gt := by omega
            have nXf : w.heap.size ≠ gt := by omega
            have nXg : w.heap.size + 1 ≠ gt := by omega
            have nXh : w.heap.size ≠ X := by omega
            have nXi : w.heap.size + 1 ≠ X := by omega
            have nXj : w.heap.size ≠ gl := by omega
            have nXk : w.heap.size + 1 ≠ gl := by omega
            clear hpr hGm hol hot hog
            by_cases hlt : k < gs.length
            · obtain ⟨b, off, kd, ga, gb, rfl, hbl, hx, c0, c1', c2'⟩ := (HR.out.below hbw).gt k hlt
              have hgk : gateOk kd ga gb k = true := gates_at HC.out hx
              have gcs := gate_cases hgk
              have HX := Lib.hid hx
              have hk' : (k : Int) < (gs.length : Int) := by omega
              obtain ⟨e1, e2⟩ := HL.out.bool k (by have := HLL.out; omega)
              clear hx hgk
              cases hon : bat LV k
              · rw [hon] at e1
                have HN : Hid (prT LV gs (k + 1) = (T, G)) := (prT_skip HX.out hon).trans HPR.out
                go_wp2_with fail
                go_roundw
                case rel => exact ⟨k + 1, m, cg, ag, T, G, by omega, by go_num, (by first | (go_simp; done) | assumption), (by first | (go_simp; done) | assumption), (by first | (go_simp; done) | assumption), (by first | (go_simp; done) | assumption), (by first | (go_simp; done) | assumption), (by first | (go_simp; done) | assumption), (by first | (go_simp; done) | assumption), (by first | (go_simp; done) | assumption), (by first | (go_simp; done) | assumption), (by first | (go_simp; done) | assumption), HN.out, HGM.out, HL.out.later (by (repeat (first | with_reducible exact Kp.refl _ _ | (with_reducible refine Kp.rng ?_ (by assumption) ?_) | (with_reducible refine Kp.below ?_ (by assumption)) | (with_reducible refine Kp.grown ?_ (by assumption) ?_) | (with_reducible refine Kp.alloc ?_ _) | (with_reducible refine Kp.drew ?_) | (with_reducible refine Kp.drewN ?_ _) | (with_reducible refine Kp.setCell ?_ _ ?_))) <;> (first | omega | (simp; done) | (simp; omega))), HT.out.later (by (repeat (first | with_reducible exact Kp.refl _ _ | (with_reducible refine Kp.rng ?_ (by assumption) ?_) | (with_reducible refine Kp.below ?_ (by assumption)) | (with_reducible refine Kp.grown ?_ (by assumption) ?_) | (with_reducible refine Kp.alloc ?_ _) | (with_reducible refine Kp.drew ?_) | (with_reducible refine Kp.drewN ?_ _) | (with_reducible refine Kp.setCell ?_ _ ?_))) <;> (first | omega | (simp; done) | (simp; omega))), HG.out.alloc _, (by (repeat (first | with_reducible exact Below.refl _ _ | (with_reducible refine bel_next ?_ ?_ (by assumption)) | (with_reducible refine Below.alloc ?_ ?_ _) | (with_reducible refine Below.drew ?_) | (with_reducible refine below_drewN ?_ _) | (with_reducible refine Below.setCell ?_ ?_ _))) <;> (first | omega | (simp; done) | (simp; omega))), by simp; omega⟩
                case measure => first | (simp [intOf]; done) | (simp [intOf]; omega)
              · rw [hon] at e1
                have HN0 := Lib.hid ((prT_step HX.out hon).trans (by rw [HPR.out]))
                rcases gcs with ⟨rfl, rfl, q1', q2'⟩ | ⟨rfl, rfl, q1', q2'⟩ | ⟨rfl, q1', q2', q3', q4'⟩ | ⟨rfl, q1', q2', q3', q4'⟩ | ⟨rfl, rfl, q1', q2'⟩
                · obtain ⟨n, rfl⟩ := Int.eq_ofNat_of_zero_le q1'
                  obtain ⟨u1, u2⟩ := HT.out.intF k (by have := HTL.out; omega)
                  have HN : Hid (prT LV gs (k + 1) = (T.set k m, G ++ [⟨1, (n : Int), 0⟩])) := by
                    show _ = _
                    rw [HN0.out, HGM.out]
                    skip
                    rfl
                  have HT2 := Lib.hid (HT.out.putI k m)
                  go_wp2_with (refine wpList_pushG _ rfl _ _ rfl (gt + 1) m cg ag G ⟨1, (n : Int), 0⟩ _ 1 (by rfl) (by rfl) (HG.out.keep fun b hb => (by have hh := HG.out.blk b hb; exact (by (repeat (first | with_reducible exact Kp.refl _ _ | (with_reducible refine Kp.rng ?_ (by assumption) ?_) | (with_reducible refine Kp.below ?_ (by assumption)) | (with_reducible refine Kp.grown ?_ (by assumption) ?_) | (with_reducible refine Kp.alloc ?_ _) | (with_reducible refine Kp.drew ?_) | (with_reducible refine Kp.drewN ?_ _) | (with_reducible refine Kp.setCell ?_ _ ?_))) <;> (first | omega | (simp; done) | (simp; omega))))) (by first | (go_simp; done) | assumption) (by first | (go_simp; done) | assumption) (by first | (go_simp; done) | assumption) (by omega) (by first | omega | (simp; done) | (simp; omega)) ?_; intro g5 d5 w5 ho5 hb5 hg5 hat5; have z5 := hb5.size; (try simp at z5); have y5 := hg5.size; (try simp at y5); have ge5 := ho5.ge; have y5a : w.heap.size < w5.heap.size := (by omega); have rk0 := grown_cellA hg5 (b := w.heap.size) (o := 0) (x := .slice (some ⟨b, off, none⟩) gs.length c1) (HG.out.map_ne (by omega)) (by first | (go_simp; done) | assumption); have rk1 := grown_cellA hg5 (b := w.heap.size) (o := 1) (x := .slice a2 os.length c2) (HG.out.map_ne (by omega)) (by first | (go_simp; done) | assumption); have rk2 := grown_cellA hg5 (b := w.heap.size + 1) (o := 0) (x := .slice none 0 0) (HG.out.map_ne (by omega)) (by first | (go_simp; done) | assumption); have rk3 := grown_cellA hg5 (b := w.heap.size + 1) (o := 1) (x := .slice none 0 0) (HG.out.map_ne (by omega)) (by first | (go_simp; done) | assumption); have rk4 := grown_cellA hg5 (b := X) (o := 0) (x := .slice ag m cg) (HG.out.map_ne (by omega)) (by first | (go_simp; done) | assumption); have rk5 := grown_cellA hg5 (b := X) (o := 1) (x := .slice none 0 0) (HG.out.map_ne (by omega)) (by first | (go_simp; done) | assumption); have rf0 := grown_freeA hg5 (b := w.heap.size + 1) (o := 0) (HG.out.map_ne (by omega)) (by first | omega | (simp; done) | (simp; omega)) (by first | (go_simp; done) | assumption); have rf1 := grown_freeA hg5 (b := w.heap.size + 1) (o := 1) (HG.out.map_ne (by omega)) (by first | omega | (simp; done) | (simp; omega)) (by first | (go_simp; done) | assumption); have rf2 := grown_freeA hg5 (b := X) (o := 0) (HG.out.map_ne (by omega)) (by first | omega | (simp; done) | (simp; omega)) (by first | (go_simp; done) | assumption); have rf3 := grown_freeA hg5 (b := X) (o := 1) (HG.out.map_ne (by omega)) (by first | omega | (simp; done) | (simp; omega)) (by first | (go_simp; done) | assumption))
                  go_roundw
                  case rel => exact ⟨k + 1, m + 1, d5, some ⟨g5, 0, none⟩, _, _, by omega, by go_num, (by first | (go_simp; done) | assumption), (by first | (go_simp; done) | assumption), (by first | (go_simp; done) | assumption), (by first | (go_simp; done) | assumption), (by first | (go_simp; done) | assumption), (by first | (go_simp; done) | assumption), (by first | (go_simp; done) | assumption), (by first | (go_simp; done) | assumption), (by first | (go_simp; done) | assumption), (by first | (go_simp; done) | assumption), HN.out, by rw [List.length_append, HGM.out]; rfl, HL.out.later (by (repeat (first | with_reducible exact Kp.refl _ _ | (with_reducible refine Kp.rng ?_ (by assumption) ?_) | (with_reducible refine Kp.below ?_ (by assumption)) | (with_reducible refine Kp.grown ?_ (by assumption) ?_) | (with_reducible refine Kp.alloc ?_ _) | (with_reducible refine Kp.drew ?_) | (with_reducible refine Kp.drewN ?_ _) | (with_reducible refine Kp.setCell ?_ _ ?_))) <;> (first | omega | (simp; done) | (simp; omega) | (refine HG.out.map_ne ?_; first | omega | (simp; omega)))), HT2.out.later (by (repeat (first | with_reducible exact Kp.refl _ _ | (with_reducible refine Kp.rng ?_ (by assumption) ?_) | (with_reducible refine Kp.below ?_ (by assumption)) | (with_reducible refine Kp.grown ?_ (by assumption) ?_) | (with_reducible refine Kp.alloc ?_ _) | (with_reducible refine Kp.drew ?_) | (with_reducible refine Kp.drewN ?_ _) | (with_reducible refine Kp.setCell ?_ _ ?_))) <;> (first | omega | (simp; done) | (simp; omega) | (refine HG.out.map_ne ?_; first | omega | (simp; omega)))), ho5.later (by (repeat (first | with_reducible exact Kp.refl _ _ | (with_reducible refine Kp.rng ?_ (by assumption) ?_) | (with_reducible refine Kp.below ?_ (by assumption)) | (with_reducible refine Kp.grown ?_ (by assumption) ?_) | (with_reducible refine Kp.alloc ?_ _) | (with_reducible refine Kp.drew ?_) | (with_reducible refine Kp.drewN ?_ _) | (with_reducible refine Kp.setCell ?_ _ ?_))) <;> (first | omega | (simp; done) | (simp; omega))), (by (repeat (first | with_reducible exact Below.refl _ _ | (with_reducible refine bel_next ?_ ?_ (by assumption)) | (with_reducible refine Below.alloc ?_ ?_ _) | (with_reducible refine Below.drew ?_) | (with_reducible refine below_drewN ?_ _) | (with_reducible refine Below.setCell ?_ ?_ _))) <;> (first | omega | (simp; done) | (simp; omega))), by simp [World.setCell] <;> omega⟩
                  case measure => first | (simp [intOf]; done) | (simp [intOf]; omega)
                · obtain ⟨n, rfl⟩ := Int.eq_ofNat_of_zero_le q1'
                  obtain ⟨u1, u2⟩ := HT.out.intF k (by have := HTL.out; omega)
                  have HN : Hid (prT LV gs (k + 1) = (T.set k m, G ++ [⟨2, (n : Int), 0⟩])) := by
                    show _ = _
                    rw [HN0.out, HGM.out]
                    skip
                    rfl
                  have HT2 := Lib.hid (HT.out.putI k m)
                  go_wp2_with (refine wpList_pushG _ rfl _ _ rfl (gt + 1) m cg ag G ⟨2, (n : Int), 0⟩ _ 1 (by rfl) (by rfl) (HG.out.keep fun b hb => (by have hh := HG.out.blk b hb; exact (by (repeat (first | with_reducible exact Kp.refl _ _ | (with_reducible refine Kp.rng ?_ (by assumption) ?_) | (with_reducible refine Kp.below ?_ (by assumption)) | (with_reducible refine Kp.grown ?_ (by assumption) ?_) | (with_reducible refine Kp.alloc ?_ _) | (with_reducible refine Kp.drew ?_) | (with_reducible refine Kp.drewN ?_ _) | (with_reducible refine Kp.setCell ?_ _ ?_))) <;> (first | omega | (simp; done) | (simp; omega))))) (by first | (go_simp; done) | assumption) (by first | (go_simp; done) | assumption) (by first | (go_simp; done) | assumption) (by omega) (by first | omega | (simp; done) | (simp; omega)) ?_; intro g5 d5 w5 ho5 hb5 hg5 hat5; have z5 := hb5.size; (try simp at z5); have y5 := hg5.size; (try simp at y5); have ge5 := ho5.ge; have y5a : w.heap.size < w5.heap.size := (by omega); have rk0 := grown_cellA hg5 (b := w.heap.size) (o := 0) (x := .slice (some ⟨b, off, none⟩) gs.length c1) (HG.out.map_ne (by omega)) (by first | (go_simp; done) | assumption); have rk1 := grown_cellA hg5 (b := w.heap.size) (o := 1) (x := .slice a2 os.length c2) (HG.out.map_ne (by omega)) (by first | (go_simp; done) | assumption); have rk2 := grown_cellA hg5 (b := w.heap.size + 1) (o := 0) (x := .slice none 0 0) (HG.out.map_ne (by omega)) (by first | (go_simp; done) | assumption); have rk3 := grown_cellA hg5 (b := w.heap.size + 1) (o := 1) (x := .slice none 0 0) (HG.out.map_ne (by omega)) (by first | (go_simp; done) | assumption); have rk4 := grown_cellA hg5 (b := X) (o := 0) (x := .slice ag m cg) (HG.out.map_ne (by omega)) (by first | (go_simp; done) | assumption); have rk5 := grown_cellA hg5 (b := X) (o := 1) (x := .slice none 0 0) (HG.out.map_ne (by omega)) (by first | (go_simp; done) | assumption); have rf0 := grown_freeA hg5 (b := w.heap.size + 1) (o := 0) (HG.out.map_ne (by omega)) (by first | omega | (simp; done) | (simp; omega)) (by first | (go_simp; done) | assumption); have rf1 := grown_freeA hg5 (b := w.heap.size + 1) (o := 1) (HG.out.map_ne (by omega)) (by first | omega | (simp; done) | (simp; omega)) (by first | (go_simp; done) | assumption); have rf2 := grown_freeA hg5 (b := X) (o := 0) (HG.out.map_ne (by omega)) (by first | omega | (simp; done) | (simp; omega)) (by first | (go_simp; done) | assumption); have rf3 := grown_freeA hg5 (b := X) (o := 1) (HG.out.map_ne (by omega)) (by first | omega | (simp; done) | (simp; omega)) (by first | (go_simp; done) | assumption))
                  go_roundw
                  case rel => exact ⟨k + 1, m + 1, d5, some ⟨g5, 0, none⟩, _, _, by omega, by go_num, (by first | (go_simp; done) | assumption), (by first | (go_simp; done) | assumption), (by first | (go_simp; done) | assumption), (by first | (go_simp; done) | assumption), (by first | (go_simp; done) | assumption), (by first | (go_simp; done) | assumption), (by first | (go_simp; done) | assumption), (by first | (go_simp; done) | assumption), (by first | (go_simp; done) | assumption), (by first | (go_simp; done) | assumption), HN.out, by rw [List.length_append, HGM.out]; rfl, HL.out.later (by (repeat (first | with_reducible exact Kp.refl _ _ | (with_reducible refine Kp.rng ?_ (by assumption) ?_) | (with_reducible refine Kp.below ?_ (by assumption)) | (with_reducible refine Kp.grown ?_ (by assumption) ?_) | (with_reducible refine Kp.alloc ?_ _) | (with_reducible refine Kp.drew ?_) | (with_reducible refine Kp.drewN ?_ _) | (with_reducible refine Kp.setCell ?_ _ ?_))) <;> (first | omega | (simp; done) | (simp; omega) | (refine HG.out.map_ne ?_; first | omega | (simp; omega)))), HT2.out.later (by (repeat (first | with_reducible exact Kp.refl _ _ | (with_reducible refine Kp.rng ?_ (by assumption) ?_) | (with_reducible refine Kp.below ?_ (by assumption)) | (with_reducible refine Kp.grown ?_ (by assumption) ?_) | (with_reducible refine Kp.alloc ?_ _) | (with_reducible refine Kp.drew ?_) | (with_reducible refine Kp.drewN ?_ _) | (with_reducible refine Kp.setCell ?_ _ ?_))) <;> (first | omega | (simp; done) | (simp; omega) | (refine HG.out.map_ne ?_; first | omega | (simp; omega)))), ho5.later (by (repeat (first | with_reducible exact Kp.refl _ _ | (with_reducible refine Kp.rng ?_ (by assumption) ?_) | (with_reducible refine Kp.below ?_ (by assumption)) | (with_reducible refine Kp.grown ?_ (by assumption) ?_) | (with_reducible refine Kp.alloc ?_ _) | (with_reducible refine Kp.drew ?_) | (with_reducible refine Kp.drewN ?_ _) | (with_reducible refine Kp.setCell ?_ _ ?_))) <;> (first | omega | (simp; done) | (simp; omega))), (by (repeat (first | with_reducible exact Below.refl _ _ | (with_reducible refine bel_next ?_ ?_ (by assumption)) | (with_reducible refine Below.alloc ?_ ?_ _) | (with_reducible refine Below.drew ?_) | (with_reducible refine below_drewN ?_ _) | (with_reducible refine Below.setCell ?_ ?_ _))) <;> (first | omega | (simp; done) | (simp; omega))), by simp [World.setCell] <;> omega⟩
                  case measure => first | (simp [intOf]; done) | (simp [intOf]; omega)
                · obtain ⟨n, rfl⟩ := Int.eq_ofNat_of_zero_le q1'
                  have n1 : n < gs.length := by omega
                  have n2 : (n : Int) < (gs.length : Int) := by omega
                  obtain ⟨t1, t2⟩ := HT.out.intF n (by have := HTL.out; omega)
                  obtain ⟨va, hva⟩ : ∃ v, v = at0 T (n : Int) := ⟨_, rfl⟩
                  rw [← hva] at t1
                  obtain ⟨n', rfl⟩ := Int.eq_ofNat_of_zero_le q3'
                  have m1 : n' < gs.length := by omega
                  have m2 : (n' : Int) < (gs.length : Int) := by omega
                  obtain ⟨t3, t4⟩ := HT.out.intF n' (by have := HTL.out; omega)
                  obtain ⟨vb, hvb⟩ : ∃ v, v = at0 T (n' : Int) := ⟨_, rfl⟩
                  rw [← hvb] at t3
                  obtain ⟨u1, u2⟩ := HT.out.intF k (by have := HTL.out; omega)
                  have HN : Hid (prT LV gs (k + 1) = (T.set k m, G ++ [⟨3, va, vb⟩])) := by
                    show _ = _
                    rw [HN0.out, HGM.out]
                    rw [hva, hvb]
                    rfl
                  clear hva
                  clear hvb
                  have HT2 := Lib.hid (HT.out.putI k m)
                  go_wp2_with (refine wpList_pushG _ rfl _ _ rfl (gt + 1) m cg ag G ⟨3, va, vb⟩ _ 1 (by rfl) (by rfl) (HG.out.keep fun b hb => (by have hh := HG.out.blk b hb; exact (by (repeat (first | with_reducible exact Kp.refl _ _ | (with_reducible refine Kp.rng ?_ (by assumption) ?_) | (with_reducible refine Kp.below ?_ (by assumption)) | (with_reducible refine Kp.grown ?_ (by assumption) ?_) | (with_reducible refine Kp.alloc ?_ _) | (with_reducible refine Kp.drew ?_) | (with_reducible refine Kp.drewN ?_ _) | (with_reducible refine Kp.setCell ?_ _ ?_))) <;> (first | omega | (simp; done) | (simp; omega))))) (by first | (go_simp; done) | assumption) (by first | (go_simp; done) | assumption) (by first | (go_simp; done) | assumption) (by omega) (by first | omega | (simp; done) | (simp; omega)) ?_; intro g5 d5 w5 ho5 hb5 hg5 hat5; have z5 := hb5.size; (try simp at z5); have y5 := hg5.size; (try simp at y5); have ge5 := ho5.ge; have y5a : w.heap.size < w5.heap.size := (by omega); have rk0 := grown_cellA hg5 (b := w.heap.size) (o := 0) (x := .slice (some ⟨b, off, none⟩) gs.length c1) (HG.out.map_ne (by omega)) (by first | (go_simp; done) | assumption); have rk1 := grown_cellA hg5 (b := w.heap.size) (o := 1) (x := .slice a2 os.length c2) (HG.out.map_ne (by omega)) (by first | (go_simp; done) | assumption); have rk2 := grown_cellA hg5 (b := w.heap.size + 1) (o := 0) (x := .slice none 0 0) (HG.out.map_ne (by omega)) (by first | (go_simp; done) | assumption); have rk3 := grown_cellA hg5 (b := w.heap.size + 1) (o := 1) (x := .slice none 0 0) (HG.out.map_ne (by omega)) (by first | (go_simp; done) | assumption); have rk4 := grown_cellA hg5 (b := X) (o := 0) (x := .slice ag m cg) (HG.out.map_ne (by omega)) (by first | (go_simp; done) | assumption); have rk5 := grown_cellA hg5 (b := X) (o := 1) (x := .slice none 0 0) (HG.out.map_ne (by omega)) (by first | (go_simp; done) | assumption); have rf0 := grown_freeA hg5 (b := w.heap.size + 1) (o := 0) (HG.out.map_ne (by omega)) (by first | omega | (simp; done) | (simp; omega)) (by first | (go_simp; done) | assumption); have rf1 := grown_freeA hg5 (b := w.heap.size + 1) (o := 1) (HG.out.map_ne (by omega)) (by first | omega | (simp; done) | (simp; omega)) (by first | (go_simp; done) | assumption); have rf2 := grown_freeA hg5 (b := X) (o := 0) (HG.out.map_ne (by omega)) (by first | omega | (simp; done) | (simp; omega)) (by first | (go_simp; done) | assumption); have rf3 := grown_freeA hg5 (b := X) (o := 1) (HG.out.map_ne (by omega)) (by first | omega | (simp; done) | (simp; omega)) (by first | (go_simp; done) | assumption))
                  go_roundw
                  case rel => exact ⟨k + 1, m + 1, d5, some ⟨g5, 0, none⟩, _, _, by omega, by go_num, (by first | (go_simp; done) | assumption), (by first | (go_simp; done) | assumption), (by first | (go_simp; done) | assumption), (by first | (go_simp; done) | assumption), (by first | (go_simp; done) | assumption), (by first | (go_simp; done) | assumption), (by first | (go_simp; done) | assumption), (by first | (go_simp; done) | assumption), (by first | (go_simp; done) | assumption), (by first | (go_simp; done) | assumption), HN.out, by rw [List.length_append, HGM.out]; rfl, HL.out.later (by (repeat (first | with_reducible exact Kp.refl _ _ | (with_reducible refine Kp.rng ?_ (by assumption) ?_) | (with_reducible refine Kp.below ?_ (by assumption)) | (with_reducible refine Kp.grown ?_ (by assumption) ?_) | (with_reducible refine Kp.alloc ?_ _) | (with_reducible refine Kp.drew ?_) | (with_reducible refine Kp.drewN ?_ _) | (with_reducible refine Kp.setCell ?_ _ ?_))) <;> (first | omega | (simp; done) | (simp; omega) | (refine HG.out.map_ne ?_; first | omega | (simp; omega)))), HT2.out.later (by (repeat (first | with_reducible exact Kp.refl _ _ | (with_reducible refine Kp.rng ?_ (by assumption) ?_) | (with_reducible refine Kp.below ?_ (by assumption)) | (with_reducible refine Kp.grown ?_ (by assumption) ?_) | (with_reducible refine Kp.alloc ?_ _) | (with_reducible refine Kp.drew ?_) | (with_reducible refine Kp.drewN ?_ _) | (with_reducible refine Kp.setCell ?_ _ ?_))) <;> (first | omega | (simp; done) | (simp; omega) | (refine HG.out.map_ne ?_; first | omega | (simp; omega)))), ho5.later (by (repeat (first | with_reducible exact Kp.refl _ _ | (with_reducible refine Kp.rng ?_ (by assumption) ?_) | (with_reducible refine Kp.below ?_ (by assumption)) | (with_reducible refine Kp.grown ?_ (by assumption) ?_) | (with_reducible refine Kp.alloc ?_ _) | (with_reducible refine Kp.drew ?_) | (with_reducible refine Kp.drewN ?_ _) | (with_reducible refine Kp.setCell ?_ _ ?_))) <;> (first | omega | (simp; done) | (simp; omega))), (by (repeat (first | with_reducible exact Below.refl _ _ | (with_reducible refine bel_next ?_ ?_ (by assumption)) | (with_reducible refine Below.alloc ?_ ?_ _) | (with_reducible refine Below.drew ?_) | (with_reducible refine below_drewN ?_ _) | (with_reducible refine Below.setCell ?_ ?_ _))) <;> (first | omega | (simp; done) | (simp; omega))), by simp [World.setCell] <;> omega⟩
                  case measure => first | (simp [intOf]; done) | (simp [intOf]; omega)
                · obtain ⟨n, rfl⟩ := Int.eq_ofNat_of_zero_le q1'
                  have n1 : n < gs.length := by omega
                  have n2 : (n : Int) < (gs.length : Int) := by omega
                  obtain ⟨t1, t2⟩ := HT.out.intF n (by have := HTL.out; omega)
                  obtain ⟨va, hva⟩ : ∃ v, v = at0 T (n : Int) := ⟨_, rfl⟩
                  rw [← hva] at t1
                  obtain ⟨n', rfl⟩ := Int.eq_ofNat_of_zero_le q3'
                  have m1 : n' < gs.length := by omega
                  have m2 : (n' : Int) < (gs.length : Int) := by omega
                  obtain ⟨t3, t4⟩ := HT.out.intF n' (by have := HTL.out; omega)
                  obtain ⟨vb, hvb⟩ : ∃ v, v = at0 T (n' : Int) := ⟨_, rfl⟩
                  rw [← hvb] at t3
                  obtain ⟨u1, u2⟩ := HT.out.intF k (by have := HTL.out; omega)
                  have HN : Hid (prT LV gs (k + 1) = (T.set k m, G ++ [⟨4, va, vb⟩])) := by
                    show _ = _
                    rw [HN0.out, HGM.out]
                    rw [hva, hvb]
                    rfl
                  clear hva
                  clear hvb
                  have HT2 := Lib.hid (HT.out.putI k m)
                  go_wp2_with (refine wpList_pushG _ rfl _ _ rfl (gt + 1) m cg ag G ⟨4, va, vb⟩ _ 1 (by rfl) (by rfl) (HG.out.keep fun b hb => (by have hh := HG.out.blk b hb; exact (by (repeat (first | with_reducible exact Kp.refl _ _ | (with_reducible refine Kp.rng ?_ (by assumption) ?_) | (with_reducible refine Kp.below ?_ (by assumption)) | (with_reducible refine Kp.grown ?_ (by assumption) ?_) | (with_reducible refine Kp.alloc ?_ _) | (with_reducible refine Kp.drew ?_) | (with_reducible refine Kp.drewN ?_ _) | (with_reducible refine Kp.setCell ?_ _ ?_))) <;> (first | omega | (simp; done) | (simp; omega))))) (by first | (go_simp; done) | assumption) (by first | (go_simp; done) | assumption) (by first | (go_simp; done) | assumption) (by omega) (by first | omega | (simp; done) | (simp; omega)) ?_; intro g5 d5 w5 ho5 hb5 hg5 hat5; have z5 := hb5.size; (try simp at z5); have y5 := hg5.size; (try simp at y5); have ge5 := ho5.ge; have y5a : w.heap.size < w5.heap.size := (by omega); have rk0 := grown_cellA hg5 (b := w.heap.size) (o := 0) (x := .slice (some ⟨b, off, none⟩) gs.length c1) (HG.out.map_ne (by omega)) (by first | (go_simp; done) | assumption); have rk1 := grown_cellA hg5 (b := w.heap.size) (o := 1) (x := .slice a2 os.length c2) (HG.out.map_ne (by omega)) (by first | (go_simp; done) | assumption); have rk2 := grown_cellA hg5 (b := w.heap.size + 1) (o := 0) (x := .slice none 0 0) (HG.out.map_ne (by omega)) (by first | (go_simp; done) | assumption); have rk3 := grown_cellA hg5 (b := w.heap.size + 1) (o := 1) (x := .slice none 0 0) (HG.out.map_ne (by omega)) (by first | (go_simp; done) | assumption); have rk4 := grown_cellA hg5 (b := X) (o := 0) (x := .slice ag m cg) (HG.out.map_ne (by omega)) (by first | (go_simp; done) | assumption); have rk5 := grown_cellA hg5 (b := X) (o := 1) (x := .slice none 0 0) (HG.out.map_ne (by omega)) (by first | (go_simp; done) | assumption); have rf0 := grown_freeA hg5 (b := w.heap.size + 1) (o := 0) (HG.out.map_ne (by omega)) (by first | omega | (simp; done) | (simp; omega)) (by first | (go_simp; done) | assumption); have rf1 := grown_freeA hg5 (b := w.heap.size + 1) (o := 1) (HG.out.map_ne (by omega)) (by first | omega | (simp; done) | (simp; omega)) (by first | (go_simp; done) | assumption); have rf2 := grown_freeA hg5 (b := X) (o := 0) (HG.out.map_ne (by omega)) (by first | omega | (simp; done) | (simp; omega)) (by first | (go_simp; done) | assumption); have rf3 := grown_freeA hg5 (b := X) (o := 1) (HG.out.map_ne (by omega)) (by first | omega | (simp; done) | (simp; omega)) (by first | (go_simp; done) | assumption))
                  go_roundw
                  case rel => exact ⟨k + 1, m + 1, d5, some ⟨g5, 0, none⟩, _, _, by omega, by go_num, (by first | (go_simp; done) | assumption), (by first | (go_simp; done) | assumption), (by first | (go_simp; done) | assumption), (by first | (go_simp; done) | assumption), (by first | (go_simp; done) | assumption), (by first | (go_simp; done) | assumption), (by first | (go_simp; done) | assumption), (by first | (go_simp; done) | assumption), (by first | (go_simp; done) | assumption), (by first | (go_simp; done) | assumption), HN.out, by rw [List.length_append, HGM.out]; rfl, HL.out.later (by (repeat (first | with_reducible exact Kp.refl _ _ | (with_reducible refine Kp.rng ?_ (by assumption) ?_) | (with_reducible refine Kp.below ?_ (by assumption)) | (with_reducible refine Kp.grown ?_ (by assumption) ?_) | (with_reducible refine Kp.alloc ?_ _) | (with_reducible refine Kp.drew ?_) | (with_reducible refine Kp.drewN ?_ _) | (with_reducible refine Kp.setCell ?_ _ ?_))) <;> (first | omega | (simp; done) | (simp; omega) | (refine HG.out.map_ne ?_; first | omega | (simp; omega)))), HT2.out.later (by (repeat (first | with_reducible exact Kp.refl _ _ | (with_reducible refine Kp.rng ?_ (by assumption) ?_) | (with_reducible refine Kp.below ?_ (by assumption)) | (with_reducible refine Kp.grown ?_ (by assumption) ?_) | (with_reducible refine Kp.alloc ?_ _) | (with_reducible refine Kp.drew ?_) | (with_reducible refine Kp.drewN ?_ _) | (with_reducible refine Kp.setCell ?_ _ ?_))) <;> (first | omega | (simp; done) | (simp; omega) | (refine HG.out.map_ne ?_; first | omega | (simp; omega)))), ho5.later (by (repeat (first | with_reducible exact Kp.refl _ _ | (with_reducible refine Kp.rng ?_ (by assumption) ?_) | (with_reducible refine Kp.below ?_ (by assumption)) | (with_reducible refine Kp.grown ?_ (by assumption) ?_) | (with_reducible refine Kp.alloc ?_ _) | (with_reducible refine Kp.drew ?_) | (with_reducible refine Kp.drewN ?_ _) | (with_reducible refine Kp.setCell ?_ _ ?_))) <;> (first | omega | (simp; done) | (simp; omega))), (by (repeat (first | with_reducible exact Below.refl _ _ | (with_reducible refine bel_next ?_ ?_ (by assumption)) | (with_reducible refine Below.alloc ?_ ?_ _) | (with_reducible refine Below.drew ?_) | (with_reducible refine below_drewN ?_ _) | (with_reducible refine Below.setCell ?_ ?_ _))) <;> (first | omega | (simp; done) | (simp; omega))), by simp [World.setCell] <;> omega⟩
                  case measure => first | (simp [intOf]; done) | (simp [intOf]; omega)
                · obtain ⟨n, rfl⟩ := Int.eq_ofNat_of_zero_le q1'
                  have n1 : n < gs.length := by omega
                  have n2 : (n : Int) < (gs.length : Int) := by omega
                  obtain ⟨t1, t2⟩ := HT.out.intF n (by have := HTL.out; omega)
                  obtain ⟨va, hva⟩ : ∃ v, v = at0 T (n : Int) := ⟨_, rfl⟩
                  rw [← hva] at t1
                  obtain ⟨u1, u2⟩ := HT.out.intF k (by have := HTL.out; omega)
                  have HN : Hid (prT LV gs (k + 1) = (T.set k m, G ++ [⟨5, va, 0⟩])) := by
                    show _ = _
                    rw [HN0.out, HGM.out]
                    rw [hva]
                    rfl
                  clear hva
                  have HT2 := Lib.hid (HT.out.putI k m)
                  go_wp2_with (refine wpList_pushG _ rfl _ _ rfl (gt + 1) m cg ag G ⟨5, va, 0⟩ _ 1 (by rfl) (by rfl) (HG.out.keep fun b hb => (by have hh := HG.out.blk b hb; exact (by (repeat (first | with_reducible exact Kp.refl _ _ | (with_reducible refine Kp.rng ?_ (by assumption) ?_) | (with_reducible refine Kp.below ?_ (by assumption)) | (with_reducible refine Kp.grown ?_ (by assumption) ?_) | (with_reducible refine Kp.alloc ?_ _) | (with_reducible refine Kp.drew ?_) | (with_reducible refine Kp.drewN ?_ _) | (with_reducible refine Kp.setCell ?_ _ ?_))) <;> (first | omega | (simp; done) | (simp; omega))))) (by first | (go_simp; done) | assumption) (by first | (go_simp; done) | assumption) (by first | (go_simp; done) | assumption) (by omega) (by first | omega | (simp; done) | (simp; omega)) ?_; intro g5 d5 w5 ho5 hb5 hg5 hat5; have z5 := hb5.size; (try simp at z5); have y5 := hg5.size; (try simp at y5); have ge5 := ho5.ge; have y5a : w.heap.size < w5.heap.size := (by omega); have rk0 := grown_cellA hg5 (b := w.heap.size) (o := 0) (x := .slice (some ⟨b, off, none⟩) gs.length c1) (HG.out.map_ne (by omega)) (by first | (go_simp; done) | assumption); have rk1 := grown_cellA hg5 (b := w.heap.size) (o := 1) (x := .slice a2 os.length c2) (HG.out.map_ne (by omega)) (by first | (go_simp; done) | assumption); have rk2 := grown_cellA hg5 (b := w.heap.size + 1) (o := 0) (x := .slice none 0 0) (HG.out.map_ne (by omega)) (by first | (go_simp; done) | assumption); have rk3 := grown_cellA hg5 (b := w.heap.size + 1) (o := 1) (x := .slice none 0 0) (HG.out.map_ne (by omega)) (by first | (go_simp; done) | assumption); have rk4 := grown_cellA hg5 (b := X) (o := 0) (x := .slice ag m cg) (HG.out.map_ne (by omega)) (by first | (go_simp; done) | assumption); have rk5 := grown_cellA hg5 (b := X) (o := 1) (x := .slice none 0 0) (HG.out.map_ne (by omega)) (by first | (go_simp; done) | assumption); have rf0 := grown_freeA hg5 (b := w.heap.size + 1) (o := 0) (HG.out.map_ne (by omega)) (by first | omega | (simp; done) | (simp; omega)) (by first | (go_simp; done) | assumption); have rf1 := grown_freeA hg5 (b := w.heap.size + 1) (o := 1) (HG.out.map_ne (by omega)) (by first | omega | (simp; done) | (simp; omega)) (by first | (go_simp; done) | assumption); have rf2 := grown_freeA hg5 (b := X) (o := 0) (HG.out.map_ne (by omega)) (by first | omega | (simp; done) | (simp; omega)) (by first | (go_simp; done) | assumption); have rf3 := grown_freeA hg5 (b := X) (o := 1) (HG.out.map_ne (by omega)) (by first | omega | (simp; done) | (simp; omega)) (by first | (go_simp; done) | assumption))
                  go_roundw
                  case rel => exact ⟨k + 1, m + 1, d5, some ⟨g5, 0, none⟩, _, _, by omega, by go_num, (by first | (go_simp; done) | assumption), (by first | (go_simp; done) | assumption), (by first | (go_simp; done) | assumption), (by first | (go_simp; done) | assumption), (by first | (go_simp; done) | assumption), (by first | (go_simp; done) | assumption), (by first | (go_simp; done) | assumption), (by first | (go_simp; done) | assumption), (by first | (go_simp; done) | assumption), (by first | (go_simp; done) | assumption), HN.out, by rw [List.length_append, HGM.out]; rfl, HL.out.later (by (repeat (first | with_reducible exact Kp.refl _ _ | (with_reducible refine Kp.rng ?_ (by assumption) ?_) | (with_reducible refine Kp.below ?_ (by assumption)) | (with_reducible refine Kp.grown ?_ (by assumption) ?_) | (with_reducible refine Kp.alloc ?_ _) | (with_reducible refine Kp.drew ?_) | (with_reducible refine Kp.drewN ?_ _) | (with_reducible refine Kp.setCell ?_ _ ?_))) <;> (first | omega | (simp; done) | (simp; omega) | (refine HG.out.map_ne ?_; first | omega | (simp; omega)))), HT2.out.later (by (repeat (first | with_reducible exact Kp.refl _ _ | (with_reducible refine Kp.rng ?_ (by assumption) ?_) | (with_reducible refine Kp.below ?_ (by assumption)) | (with_reducible refine Kp.grown ?_ (by assumption) ?_) | (with_reducible refine Kp.alloc ?_ _) | (with_reducible refine Kp.drew ?_) | (with_reducible refine Kp.drewN ?_ _) | (with_reducible refine Kp.setCell ?_ _ ?_))) <;> (first | omega | (simp; done) | (simp; omega) | (refine HG.out.map_ne ?_; first | omega | (simp; omega)))), ho5.later (by (repeat (first | with_reducible exact Kp.refl _ _ | (with_reducible refine Kp.rng ?_ (by assumption) ?_) | (with_reducible refine Kp.below ?_ (by assumption)) | (with_reducible refine Kp.grown ?_ (by assumption) ?_) | (with_reducible refine Kp.alloc ?_ _) | (with_reducible refine Kp.drew ?_) | (with_reducible refine Kp.drewN ?_ _) | (with_reducible refine Kp.setCell ?_ _ ?_))) <;> (first | omega | (simp; done) | (simp; omega))), (by (repeat (first | with_reducible exact Below.refl _ _ | (with_reducible refine bel_next ?_ ?_ (by assumption)) | (with_reducible refine Below.alloc ?_ ?_ _) | (with_reducible refine Below.drew ?_) | (with_reducible refine below_drewN ?_ _) | (with_reducible refine Below.setCell ?_ ?_ _))) <;> (first | omega | (simp; done) | (simp; omega))), by simp [World.setCell] <;> omega⟩
                  case measure => first | (simp [intOf]; done) | (simp [intOf]; omega)
            · have HK : Hid (prT LV gs gs.length = (T, G)) := by show _ = _; rw [← HPR.out, show k = gs.length by omega]
              have hk' : ¬ (k : Int) < (gs.length : Int) := by omega
              go_wp2_with fail
              go_loopw [135] (fun i w2 => ∃ (k2 co : Nat) (ao : Option Addr), k2 ≤ os.length ∧ i = .int .i64 k2 ∧ w2.cell? ⟨w.heap.size, 0, none⟩ = some (.slice a1 gs.length c1) ∧ w2.cell? ⟨w.heap.size, 1, none⟩ = some (.slice a2 os.length c2) ∧ w2.cell? ⟨w.heap.size + 1, 0, none⟩ = some (.slice none 0 0) ∧ w2.cell? ⟨w.heap.size + 1, 1, none⟩ = some (.slice none 0 0) ∧ w2.cell? ⟨X, 0, none⟩ = some (.slice ag m cg) ∧ w2.cell? ⟨X, 1, none⟩ = some (.slice ao k2 co) ∧ w2.frozen? ⟨w.heap.size + 1, 0, none⟩ = false ∧ w2.frozen? ⟨w.heap.size + 1, 1, none⟩ = false ∧ w2.frozen? ⟨X, 0, none⟩ = false ∧ w2.frozen? ⟨X, 1, none⟩ = false ∧
                  Own w2 w.heap.size 3 1 (some ⟨gt, 0, none⟩) gs.length gs.length (I64 T) ∧ Own w2 (gt + 1) 50 3 ag m cg (gtCells G) ∧ Own w2 (gt + 1) 3 1 ao k2 co (I64 (outsOf T (os.take k2))) ∧ (∀ x y, ag = some x → ao = some y → x.block ≠ y.block) ∧ Below w.heap.size w w2 ∧ gt + 1 ≤ w2.heap.size) (fun i _ => os.length - (intOf i).toNat)
              case atStart => exact ⟨0, 0, none, Nat.zero_le _, rfl, q0, q1, q2, q3, q4, q5, f0, f1, f2, f3, HT.out, HG.out, Own.nil _ _ _ _, (fun x y _ h => by cases h), hbw, hxw⟩
              case round =>
                clear q0 q1 q2 q3 q4 q5 f0 f1 f2 f3 HT HG hbw hxw zr HL nH0 nH1 nH2 nH3 ngt ngl ngt' ngl' nX nX0
                obtain ⟨k2, co, ao, hk2, rfl, q0, q1, q2, q3, q4, q5, f0, f1, f2, f3, hot, hog, hoq, hne, hbw, hxw⟩ := hrel
                have zr := hbw.size
                have HT := Lib.hid hot
                have HG := Lib.hid hog
                have HQ := Lib.hid hoq
                have HNE := Lib.hid hne
                have nX : X ≠ wr.heap.size := by omega
                have nX0 : X < wr.heap.size := by omega
                have nH0 : w.heap.size < wr.heap.size := by omega
                have nH1 : w.heap.size + 1 < wr.heap.size := by omega
                have nH2 : w.heap.size ≠ wr.heap.size := by omega
                have nH3 : w.heap.size + 1 ≠ wr.heap.size := by omega
                have ngt : gt < wr.heap.size := by omega
                have ngt' : gt ≠ wr.heap.size := by omega
                clear hot hog hoq hne
                by_cases hlt2 : k2 < os.length
                · obtain ⟨b, off, rfl, hcell⟩ := (HR2.out.below hbw).at k2 hlt2
                  have hc := hcell k2 hlt2
                  have hlt' : (k2 : Int) < (os.length : Int) := by omega
                  have hy := outs_at HC.out hlt2
                  have HS := Lib.hid (outsOf_snoc (ws := T) hlt2)
                  obtain ⟨y, hyy⟩ : ∃ y, y = os[k2] := ⟨_, rfl⟩
                  rw [← hyy] at hc hy HS
                  clear hyy hcell
                  have hbb := lt_of_cell hc
                  simp only at hbb
                  obtain ⟨n, rfl⟩ := Int.eq_ofNat_of_zero_le hy.1
                  have n1 : n < gs.length := by omega
                  have n2 : (n : Int) < (gs.length : Int) := by omega
                  obtain ⟨t1, t2⟩ := HT.out.intF n (by have := HTL.out; omega)
                  obtain ⟨va, hva⟩ : ∃ v, v = at0 T (n : Int) := ⟨_, rfl⟩
                  rw [← hva] at t1 HS
                  clear hva hy
                  go_wp2_with fail
                  go_region_law (first | (refine step_pushA _ rfl _ _ rfl (gt + 1) k2 co ao (outsOf T (os.take k2)) va _ 1 (by rfl) (by rfl) (HQ.out.keep fun b hb => (by have hh := HQ.out.blk b hb; exact (by (repeat (first | with_reducible exact Kp.refl _ _ | (with_reducible refine Kp.rng ?_ (by assumption) ?_) | (with_reducible refine Kp.below ?_ (by assumption)) | (with_reducible refine Kp.grown ?_ (by assumption) ?_) | (with_reducible refine Kp.alloc ?_ _) | (with_reducible refine Kp.drew ?_) | (with_reducible refine Kp.drewN ?_ _) | (with_reducible refine Kp.setCell ?_ _ ?_))) <;> (first | omega | (simp; done) | (simp; omega))))) (by first | (go_simp; done) | assumption) (by omega) (by first | omega | (simp; done) | (simp; omega)) ?_; intro g5 d5 w5 ho5 hb5 hg5 hat5; have z5 := hb5.size; (try simp at z5); have y5 := hg5.size; (try simp at y5); have ge5 := ho5.ge; have y5a : w.heap.size < w5.heap.size := (by omega); have HNE2 : Hid (∀ x y, ag = some x → some (⟨g5, 0, none⟩ : Addr) = some y → x.block ≠ y.block) := (by intro x y hx hy; obtain rfl := Option.some.inj hy; have hh := HG.out.blk x hx; rcases hat5 with hat5 | hat5; exact HNE.out x _ hx hat5; (try simp at hat5); simp; omega); have rk0 := grown_cellA hg5 (b := w.heap.size) (o := 0) (x := .slice a1 gs.length c1) (HQ.out.map_ne (by omega)) (by first | (go_simp; done) | assumption); have rk1 := grown_cellA hg5 (b := w.heap.size) (o := 1) (x := .slice (some ⟨b, off, none⟩) os.length c2) (HQ.out.map_ne (by omega)) (by first | (go_simp; done) | assumption); have rk2 := grown_cellA hg5 (b := w.heap.size + 1) (o := 0) (x := .slice none 0 0) (HQ.out.map_ne (by omega)) (by first | (go_simp; done) | assumption); have rk3 := grown_cellA hg5 (b := w.heap.size + 1) (o := 1) (x := .slice none 0 0) (HQ.out.map_ne (by omega)) (by first | (go_simp; done) | assumption); have rk4 := grown_cellA hg5 (b := X) (o := 0) (x := .slice ag m cg) (HQ.out.map_ne (by omega)) (by first | (go_simp; done) | assumption); have rk5 := grown_cellA hg5 (b := X) (o := 1) (x := .slice ao k2 co) (HQ.out.map_ne (by omega)) (by first | (go_simp; done) | assumption); have rf0 := grown_freeA hg5 (b := w.heap.size + 1) (o := 0) (HQ.out.map_ne (by omega)) (by first | omega | (simp; done) | (simp; omega)) (by first | (go_simp; done) | assumption); have rf1 := grown_freeA hg5 (b := w.heap.size + 1) (o := 1) (HQ.out.map_ne (by omega)) (by first | omega | (simp; done) | (simp; omega)) (by first | (go_simp; done) | assumption); have rf2 := grown_freeA hg5 (b := X) (o := 0) (HQ.out.map_ne (by omega)) (by first | omega | (simp; done) | (simp; omega)) (by first | (go_simp; done) | assumption); have rf3 := grown_freeA hg5 (b := X) (o := 1) (HQ.out.map_ne (by omega)) (by first | omega | (simp; done) | (simp; omega)) (by first | (go_simp; done) | assumption)))
                  all_goals go_wp2_with fail
                  all_goals go_roundw
                  all_goals first
                    | (show _ < _; first | (simp [intOf]; done) | (simp [intOf]; omega))
                    | exact ⟨k2 + 1, d5, some ⟨g5, 0, none⟩, by omega, by go_num, (by first | (go_simp; done) | assumption), (by first | (go_simp; done) | assumption), (by first | (go_simp; done) | assumption), (by first | (go_simp; done) | assumption), (by first | (go_simp; done) | assumption), (by first | (go_simp; done) | assumption), (by first | (go_simp; done) | assumption), (by first | (go_simp; done) | assumption), (by first | (go_simp; done) | assumption), (by first | (go_simp; done) | assumption), HT.out.later (by (repeat (first | with_reducible exact Kp.refl _ _ | (with_reducible refine Kp.rng ?_ (by assumption) ?_) | (with_reducible refine Kp.below ?_ (by assumption)) | (with_reducible refine Kp.grown ?_ (by assumption) ?_) | (with_reducible refine Kp.alloc ?_ _) | (with_reducible refine Kp.drew ?_) | (with_reducible refine Kp.drewN ?_ _) | (with_reducible refine Kp.setCell ?_ _ ?_))) <;> (first | omega | (simp; done) | (simp; omega) | (refine HQ.out.map_ne ?_; first | omega | (simp; omega)))), HG.out.keep fun x hx => (by have hh := HG.out.blk x hx; exact (by (repeat (first | with_reducible exact Kp.refl _ _ | (with_reducible refine Kp.rng ?_ (by assumption) ?_) | (with_reducible refine Kp.below ?_ (by assumption)) | (with_reducible refine Kp.grown ?_ (by assumption) ?_) | (with_reducible refine Kp.alloc ?_ _) | (with_reducible refine Kp.drew ?_) | (with_reducible refine Kp.drewN ?_ _) | (with_reducible refine Kp.setCell ?_ _ ?_))) <;> (first | omega | (simp; done) | (simp; omega) | (exact map_ne_of fun a ha e => HNE.out _ _ hx ha e.symm)))), by rw [HS.out]; exact ho5.later (by (repeat (first | with_reducible exact Kp.refl _ _ | (with_reducible refine Kp.rng ?_ (by assumption) ?_) | (with_reducible refine Kp.below ?_ (by assumption)) | (with_reducible refine Kp.grown ?_ (by assumption) ?_) | (with_reducible refine Kp.alloc ?_ _) | (with_reducible refine Kp.drew ?_) | (with_reducible refine Kp.drewN ?_ _) | (with_reducible refine Kp.setCell ?_ _ ?_))) <;> (first | omega | (simp; done) | (simp; omega))), HNE2.out, (by (repeat (first | with_reducible exact Below.refl _ _ | (with_reducible refine bel_next ?_ ?_ (by assumption)) | (with_reducible refine Below.alloc ?_ ?_ _) | (with_reducible refine Below.drew ?_) | (with_reducible refine below_drewN ?_ _) | (with_reducible refine Below.setCell ?_ ?_ _))) <;> (first | omega | (simp; done) | (simp; omega))), by simp [World.setCell] <;> omega⟩
                · have HK2 : Hid (outsOf T (os.take k2) = pruneO gs os) := by
                    show _ = _
                    rw [List.take_of_length_le (by omega)]
                    unfold pruneO pruneTo
                    rw [← HLV.out, HK.out]
                  have HKG : Hid (pruneG gs os = G) := by show _ = _; unfold pruneG; rw [← HLV.out, HK.out]
                  have HKL : Hid ((pruneO gs os).length = k2) := by show _ = _; unfold pruneO; rw [outsOf_len]; omega
                  have hlt' : ¬ (k2 : Int) < (os.length : Int) := by omega
                  go_wp2_with fail
                  refine bodyPost_ret (v := .agg #[.slice ag m cg, .slice ao k2 co]) (by simp [results, Try.results38, go_sem, *]) rfl ?_
                  refine ⟨ag, cg, ao, co, by rw [HKG.out, HKL.out, HGM.out], ?_, ?_, HNE.out, (by (repeat (first | with_reducible exact Below.refl _ _ | (with_reducible refine bel_next ?_ ?_ (by assumption)) | (with_reducible refine Below.alloc ?_ ?_ _) | (with_reducible refine Below.drew ?_) | (with_reducible refine below_drewN ?_ _) | (with_reducible refine Below.setCell ?_ ?_ _))) <;> (first | omega | (simp; done) | (simp; omega)))⟩
                  · rw [HKG.out, HGM.out]; exact (HG.out.lo (by omega)).keep fun x hx => (by have hh := HG.out.blk x hx; exact (by (repeat (first | with_reducible exact Kp.refl _ _ | (with_reducible refine Kp.rng ?_ (by assumption) ?_) | (with_reducible refine Kp.below ?_ (by assumption)) | (with_reducible refine Kp.grown ?_ (by assumption) ?_) | (with_reducible refine Kp.alloc ?_ _) | (with_reducible refine Kp.drew ?_) | (with_reducible refine Kp.drewN ?_ _) | (with_reducible refine Kp.setCell ?_ _ ?_))) <;> (first | omega | (simp; done) | (simp; omega))))
                  · rw [HKL.out, ← HK2.out]; exact (HQ.out.lo (by omega)).keep fun x hx => (by have hh := HQ.out.blk x hx; exact (by (repeat (first | with_reducible exact Kp.refl _ _ | (with_reducible refine Kp.rng ?_ (by assumption) ?_) | (with_reducible refine Kp.below ?_ (by assumption)) | (with_reducible refine Kp.grown ?_ (by assumption) ?_) | (with_reducible refine Kp.alloc ?_ _) | (with_reducible refine Kp.drew ?_) | (with_reducible refine Kp.drewN ?_ _) | (with_reducible refine Kp.setCell ?_ _ ?_))) <;> (first | omega | (simp; done) | (simp; omega))))
end Go.Proofs.Ytfpblgbokmpmjaa

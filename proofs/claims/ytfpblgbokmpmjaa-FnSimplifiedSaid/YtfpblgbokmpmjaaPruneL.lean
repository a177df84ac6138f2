/- Rows of Bools; the live gates. -/
import Derived.Test.YtfpblgbokmpmjaaPruneF
import Derived.Test.YtfpblgbokmpmjaaAppA
import Derived.Deep.RegionHeld3
import Derived.Deep.RegionLaw
namespace Go.Proofs.Ytfpblgbokmpmjaa
open Go.RowKit
set_option linter.unusedVariables false
set_option linter.unusedSimpArgs false

def BL (l : List Bool) : List Value := l.map Value.bool
@[simp] theorem BL_length (l : List Bool) : (BL l).length = l.length := by simp [BL]
theorem BL_set (l : List Bool) (j : Nat) (b : Bool) : (BL l).set j (.bool b) = BL (l.set j b) := by simp [BL, List.map_set]
theorem BL_get (l : List Bool) (j : Nat) (h : j < l.length) : (BL l)[j]'(by simpa using h) = .bool (bat l j) := by simp [BL, bat_lt h]
theorem made_bools (n : Nat) : (madeCells #[Value.bool false] n).toList = BL (List.replicate n false) := by
  refine List.ext_getElem (by simp [madeCells]) fun i h1 h2 => ?_
  simp [madeCells, BL, Nat.mod_one]
theorem info_bool : (Try.prog.info? 4).map (fun i => (i.zero, i.size, i.bytes)) = some (some (.bool false), 1, 1) := by kernel_rfl
theorem Own.bool {w : World} {lo g n cap : Nat} {l : List Bool} (h : Own w lo 4 1 (some ⟨g, 0, none⟩) n cap (BL l)) (j : Nat) (hj : j < l.length) : w.cell? ⟨g, j, none⟩ = some (.bool (bat l j)) ∧ w.frozen? ⟨g, j, none⟩ = false := by
  have := h.get j (by simpa using hj)
  rwa [BL_get l j hj] at this
theorem Own.putB {w : World} {lo g n cap : Nat} {l : List Bool} (h : Own w lo 4 1 (some ⟨g, 0, none⟩) n cap (BL l)) (j : Nat) (b : Bool) : Own (w.setCell ⟨g, j, none⟩ (.bool b)) lo 4 1 (some ⟨g, 0, none⟩) n cap (BL (l.set j b)) := by
  have := h.put j (.bool b)
  rwa [BL_set] at this
theorem gates_at {gs : List Gt} {os : List Int} (h : circOk gs os = true) {k : Nat} {g : Gt} (hg : gs[k]? = some g) : gateOk g.kd g.ga g.gb k = true := gtsOk_get (circ_parts h).1 hg
theorem outs_at {gs : List Gt} {os : List Int} (h : circOk gs os = true) {k : Nat} (hk : k < os.length) : 0 ≤ os[k] ∧ os[k] < gs.length := by
  have := allB_iff.1 (circ_parts h).2.1 _ (List.getElem_mem hk); omega
theorem l16Two_any (kd : Int) (w : World) : Calls Try.prog 67 #[.int .i64 kd] w fun e w' => e = .returned (.bool (kd == 3 || kd == 4)) ∧ w' = w := by
  go_enter Try.func67, Try.ntmps67
  by_cases h3 : kd = 3
  · subst h3; go_wp2_with fail; go_ret; simp
  by_cases h4 : kd = 4
  · subst h4; go_wp2_with fail; go_ret; simp
  have t3 : (kd == 3) = false := by simp [h3]
  have t4 : (kd == 4) = false := by simp [h4]
  go_wp2_with fail
  go_ret
  simp [t3, t4]

set_option maxRecDepth 20000 in
set_option maxHeartbeats 8000000 in
theorem l16Live_any (gs : List Gt) (os : List Int) (a1 a2 : Option Addr) (c1 c2 : Nat) (w : World) (hm : gs.length ≤ 6000) (hm2 : os.length ≤ 1048576) (hok : circOk gs os = true) (hr : RdC w a1 (gtCells gs)) (hr2 : RdC w a2 (I64 os)) :
    Calls Try.prog 66 #[.agg #[.slice a1 gs.length c1, .slice a2 os.length c2]] w fun e w' => ∃ g, e = .returned (.slice (some ⟨g, 0, none⟩) gs.length gs.length) ∧ Own w' w.heap.size 4 1 (some ⟨g, 0, none⟩) gs.length gs.length (BL (liveL gs os)) ∧ Below w.heap.size w w' := by
  have HR := Lib.hid hr
  have HR2 := Lib.hid hr2
  have HOK := Lib.hid hok
  clear hr hr2 hok
  obtain ⟨i0, hi, hz0, hz1, hz2⟩ := info_parts info_bool
  go_enter Try.func66, Try.ntmps66
  go_wp2_with (at_make; refine wpList_make_full _ rfl _ _ 52 rfl w.heap.size 4 i0 (.bool false) 1 Try.underlying52 hi hz0 hz1 .i64 .i64 _ _ gs.length rfl rfl rfl rfl ?b2 ?b3 ?b4 ?_)
  case b2 => rw [hz2]; omega
  case b3 => unfold maxLen; omega
  case b4 => simp
  intro w1 hown1 hgr1
  (try simp at hown1)
  have hb1 : Below w.heap.size w w1 := ((Below.refl _ _).alloc (Nat.le_refl _) _).grown hgr1 (by simp) (by simp)
  rw [made_bools] at hown1
  have k1_0 : w1.cell? ⟨w.heap.size, 0, none⟩ = some (.slice a1 gs.length c1) := grown_cellA hgr1 (by simp) (by go_simp)
  have k1_1 : w1.cell? ⟨w.heap.size, 1, none⟩ = some (.slice a2 os.length c2) := grown_cellA hgr1 (by simp) (by go_simp)
  have z1 := hgr1.size
  (try simp at z1)
  obtain ⟨g, hg⟩ : ∃ g, g = w.heap.size + 1 := ⟨_, rfl⟩
  rw [← hg] at hown1
  rw [← hg]
  have hg1 : w.heap.size < g := by omega
  have hown2 : Own w1 w.heap.size 4 1 (some ⟨g, 0, none⟩) gs.length gs.length (BL (live0 gs.length (os.take 0))) := hown1
  have hgz := hown2.ge
  clear hg hown1 hgr1
  go_wp2_with fail
  go_loopw [4] (fun i wr => ∃ k : Nat, k ≤ os.length ∧ i = .int .i64 k ∧ wr.cell? ⟨w.heap.size, 0, none⟩ = some (.slice a1 gs.length c1) ∧ wr.cell? ⟨w.heap.size, 1, none⟩ = some (.slice a2 os.length c2) ∧
      Own wr w.heap.size 4 1 (some ⟨g, 0, none⟩) gs.length gs.length (BL (live0 gs.length (os.take k))) ∧ Below w.heap.size w wr) (fun i _ => os.length - (intOf i).toNat)
  case atStart => exact ⟨0, Nat.zero_le _, rfl, k1_0, k1_1, hown2, hb1⟩
  case round =>
    clear hown2 hb1 k1_0 k1_1
    obtain ⟨k, hk, rfl, k0, k1, hown, hbw⟩ := hrel
    have HO := Lib.hid hown
    have zr := hbw.size
    have gr := hown.ge
    clear hown
    by_cases hlt : k < os.length
    · obtain ⟨b, off, rfl, hcell⟩ := (HR2.out.below hbw).at k hlt
      have hc := hcell k hlt
      have hlt' : (k : Int) < (os.length : Int) := by omega
      have hy := outs_at HOK.out hlt
      have HN := Lib.hid (live0_snoc gs.length hlt)
      obtain ⟨y, hyy⟩ : ∃ y, y = os[k] := ⟨_, rfl⟩
      rw [← hyy] at hc hy HN
      clear hyy hcell
      obtain ⟨m, rfl⟩ := Int.eq_ofNat_of_zero_le hy.1
      have hm1 : m < gs.length := by omega
      obtain ⟨e1, e2⟩ := HO.out.bool m (by simpa using hm1)
      have hbb := lt_of_cell hc
      simp only at hbb
      rw [Int.toNat_natCast] at HN
      go_wp2_with fail
      go_roundw
      case rel =>
        refine ⟨k + 1, by omega, by go_num, by go_simp, by go_simp, ?_, (by (repeat (first | with_reducible exact Below.refl _ _ | (with_reducible refine bel_next ?_ ?_ (by assumption)) | (with_reducible refine Below.alloc ?_ ?_ _) | (with_reducible refine Below.drew ?_) | (with_reducible refine below_drewN ?_ _) | (with_reducible refine Below.setCell ?_ ?_ _))) <;> (first | omega | (simp; done) | (simp; omega)))⟩
        rw [HN.out]; exact HO.out.putB m true
      case measure => simp [intOf]; omega
    · have HK : Hid (live0 gs.length (os.take k) = live0 gs.length os) := by show _ = _; rw [List.take_of_length_le (by omega)]
      rw [HK.out] at HO
      have hlt' : ¬ (k : Int) < (os.length : Int) := by omega
      go_wp2_with fail
      go_loopw [5] (fun i w2 => ∃ (k : Nat) (l : List Bool), k ≤ gs.length ∧ i = .int .i64 ((k : Int) - 1) ∧ w2.cell? ⟨w.heap.size, 0, none⟩ = some (.slice a1 gs.length c1) ∧ w2.cell? ⟨w.heap.size, 1, none⟩ = some (.slice a2 os.length c2) ∧ l.length = gs.length ∧ liveD gs k l = liveL gs os ∧
          Own w2 w.heap.size 4 1 (some ⟨g, 0, none⟩) gs.length gs.length (BL l) ∧ Below w.heap.size w w2) (fun i _ => (intOf i + 1).toNat)
      case atStart => exact ⟨gs.length, live0 gs.length os, Nat.le_refl _, by go_num, k0, k1, by simp, rfl, HO.out, hbw⟩
      case round =>
        clear k0 k1 zr gr HO HK hbw hlt' hlt
        obtain ⟨k, l, hk2, rfl, k0, k1, hll, hlive, hown, hbw⟩ := hrel
        have HO := Lib.hid hown
        have HLL := Lib.hid hll
        have HLV := Lib.hid hlive
        have zr := hbw.size
        have gr := hown.ge
        have na : w.heap.size ≠ wr.heap.size := by omega
        have nb : g ≠ wr.heap.size := by omega
        have nc : w.heap.size < wr.heap.size := by omega
        have nd : g < wr.heap.size := by omega
        clear hown hll hlive
        cases k with
        | zero =>
          have hle : ((0 : Nat) : Int) - 1 = -1 := by omega
          rw [hle]
          have HF : Hid (l = liveL gs os) := HLV.out
          go_wp2_with fail
          go_ret
          exact ⟨g, rfl, by rw [← HF.out]; exact HO.out, hbw⟩
        | succ j =>
          have hle : ((j + 1 : Nat) : Int) - 1 = j := by omega
          rw [hle]
          clear hle
          have hj : j < gs.length := by omega
          obtain ⟨b, off, kd, ga, gb, rfl, hbl, hx, c0, c1', c2'⟩ := (HR.out.below hbw).gt j hj
          have hgk : gateOk kd ga gb j = true := gates_at HOK.out hx
          have HX := Lib.hid hx
          have HST : Hid (liveD gs (j + 1) l = liveD gs j (liveStep l ⟨kd, ga, gb⟩ (bat l j))) := liveD_step l hx
          have hj' : (j : Int) < (gs.length : Int) := by omega
          obtain ⟨e1, e2⟩ := HO.out.bool j (by have := HLL.out; omega)
          clear hx
          have gcs := gate_cases hgk
          clear hgk
          cases hon : bat l j
          · rw [hon] at e1 HST
            go_wp2_with (go_at_call 67; refine (l16Two_any _ _).mono ?_; rintro e _ ⟨rfl, rfl⟩)
            go_roundw
            case rel => exact ⟨j, l, by omega, by go_num, (by first | (go_simp; done) | assumption), (by first | (go_simp; done) | assumption), by first | exact HLL.out | (simp; exact HLL.out), by first | exact HST.out.symm.trans HLV.out | (have hq := HST.out.symm.trans HLV.out; simpa [liveStep, usesA, usesB] using hq), HO.out.alloc _, (by (repeat (first | with_reducible exact Below.refl _ _ | (with_reducible refine bel_next ?_ ?_ (by assumption)) | (with_reducible refine Below.alloc ?_ ?_ _) | (with_reducible refine Below.drew ?_) | (with_reducible refine below_drewN ?_ _) | (with_reducible refine Below.setCell ?_ ?_ _))) <;> (first | omega | (simp; done) | (simp; omega)))⟩
            case measure => first | (simp [intOf]; done) | (simp [intOf]; omega)
          · rw [hon] at e1 HST
            rcases gcs with ⟨rfl, rfl, q1, q2⟩ | ⟨rfl, rfl, q1, q2⟩ | ⟨rfl, q1, q2, q3, q4⟩ | ⟨rfl, q1, q2, q3, q4⟩ | ⟨rfl, rfl, q1, q2⟩
            · go_wp2_with (go_at_call 67; refine (l16Two_any _ _).mono ?_; rintro e _ ⟨rfl, rfl⟩)
              go_roundw
              case rel => exact ⟨j, l, by omega, by go_num, (by first | (go_simp; done) | assumption), (by first | (go_simp; done) | assumption), by first | exact HLL.out | (simp; exact HLL.out), by first | exact HST.out.symm.trans HLV.out | (have hq := HST.out.symm.trans HLV.out; simpa [liveStep, usesA, usesB] using hq), HO.out.alloc _, (by (repeat (first | with_reducible exact Below.refl _ _ | (with_reducible refine bel_next ?_ ?_ (by assumption)) | (with_reducible refine Below.alloc ?_ ?_ _) | (with_reducible refine Below.drew ?_) | (with_reducible refine below_drewN ?_ _) | (with_reducible refine Below.setCell ?_ ?_ _))) <;> (first | omega | (simp; done) | (simp; omega)))⟩
              case measure => first | (simp [intOf]; done) | (simp [intOf]; omega)
            · go_wp2_with (go_at_call 67; refine (l16Two_any _ _).mono ?_; rintro e _ ⟨rfl, rfl⟩)
              go_roundw
              case rel => exact ⟨j, l, by omega, by go_num, (by first | (go_simp; done) | assumption), (by first | (go_simp; done) | assumption), by first | exact HLL.out | (simp; exact HLL.out), by first | exact HST.out.symm.trans HLV.out | (have hq := HST.out.symm.trans HLV.out; simpa [liveStep, usesA, usesB] using hq), HO.out.alloc _, (by (repeat (first | with_reducible exact Below.refl _ _ | (with_reducible refine bel_next ?_ ?_ (by assumption)) | (with_reducible refine Below.alloc ?_ ?_ _) | (with_reducible refine Below.drew ?_) | (with_reducible refine below_drewN ?_ _) | (with_reducible refine Below.setCell ?_ ?_ _))) <;> (first | omega | (simp; done) | (simp; omega)))⟩
              case measure => first | (simp [intOf]; done) | (simp [intOf]; omega)
            · obtain ⟨n, rfl⟩ := Int.eq_ofNat_of_zero_le q1
              obtain ⟨f1, f2⟩ := HO.out.bool n (by have := HLL.out; omega)
              have n1 : n ≠ j := by omega
              have n2 : j ≠ n := by omega
              have n3 : (n : Int) < (gs.length : Int) := by omega
              obtain ⟨m, rfl⟩ := Int.eq_ofNat_of_zero_le q3
              obtain ⟨h1, h2⟩ := HO.out.bool m (by have := HLL.out; omega)
              have m1 : m ≠ j := by omega
              have m2 : j ≠ m := by omega
              have m3 : (m : Int) < (gs.length : Int) := by omega
              by_cases hnm : m = n
              · subst hnm
                go_wp2_with (go_at_call 67; refine (l16Two_any _ _).mono ?_; rintro e _ ⟨rfl, rfl⟩)
                go_roundw
                case rel => exact ⟨j, (l.set m true).set m true, by omega, by go_num, (by first | (go_simp; done) | assumption), (by first | (go_simp; done) | assumption), by first | exact HLL.out | (simp; exact HLL.out), by first | exact HST.out.symm.trans HLV.out | (have hq := HST.out.symm.trans HLV.out; simpa [liveStep, usesA, usesB] using hq), ((HO.out.putB m true).putB m true).alloc _, (by (repeat (first | with_reducible exact Below.refl _ _ | (with_reducible refine bel_next ?_ ?_ (by assumption)) | (with_reducible refine Below.alloc ?_ ?_ _) | (with_reducible refine Below.drew ?_) | (with_reducible refine below_drewN ?_ _) | (with_reducible refine Below.setCell ?_ ?_ _))) <;> (first | omega | (simp; done) | (simp; omega)))⟩
                case measure => first | (simp [intOf]; done) | (simp [intOf]; omega)
              · have hmn : ¬ n = m := fun e => hnm e.symm
                go_wp2_with (go_at_call 67; refine (l16Two_any _ _).mono ?_; rintro e _ ⟨rfl, rfl⟩)
                go_roundw
                case rel => exact ⟨j, (l.set n true).set m true, by omega, by go_num, (by first | (go_simp; done) | assumption), (by first | (go_simp; done) | assumption), by first | exact HLL.out | (simp; exact HLL.out), by first | exact HST.out.symm.trans HLV.out | (have hq := HST.out.symm.trans HLV.out; simpa [liveStep, usesA, usesB] using hq), ((HO.out.putB n true).putB m true).alloc _, (by (repeat (first | with_reducible exact Below.refl _ _ | (with_reducible refine bel_next ?_ ?_ (by assumption)) | (with_reducible refine Below.alloc ?_ ?_ _) | (with_reducible refine Below.drew ?_) | (with_reducible refine below_drewN ?_ _) | (with_reducible refine Below.setCell ?_ ?_ _))) <;> (first | omega | (simp; done) | (simp; omega)))⟩
                case measure => first | (simp [intOf]; done) | (simp [intOf]; omega)
            · obtain ⟨n, rfl⟩ := Int.eq_ofNat_of_zero_le q1
              obtain ⟨f1, f2⟩ := HO.out.bool n (by have := HLL.out; omega)
              have n1 : n ≠ j := by omega
              have n2 : j ≠ n := by omega
              have n3 : (n : Int) < (gs.length : Int) := by omega
              obtain ⟨m, rfl⟩ := Int.eq_ofNat_of_zero_le q3
              obtain ⟨h1, h2⟩ := HO.out.bool m (by have := HLL.out; omega)
              have m1 : m ≠ j := by omega
              have m2 : j ≠ m := by omega
              have m3 : (m : Int) < (gs.length : Int) := by omega
              by_cases hnm : m = n
              · subst hnm
                go_wp2_with (go_at_call 67; refine (l16Two_any _ _).mono ?_; rintro e _ ⟨rfl, rfl⟩)
                go_roundw
                case rel => exact ⟨j, (l.set m true).set m true, by omega, by go_num, (by first | (go_simp; done) | assumption), (by first | (go_simp; done) | assumption), by first | exact HLL.out | (simp; exact HLL.out), by first | exact HST.out.symm.trans HLV.out | (have hq := HST.out.symm.trans HLV.out; simpa [liveStep, usesA, usesB] using hq), ((HO.out.putB m true).putB m true).alloc _, (by (repeat (first | with_reducible exact Below.refl _ _ | (with_reducible refine bel_next ?_ ?_ (by assumption)) | (with_reducible refine Below.alloc ?_ ?_ _) | (with_reducible refine Below.drew ?_) | (with_reducible refine below_drewN ?_ _) | (with_reducible refine Below.setCell ?_ ?_ _))) <;> (first | omega | (simp; done) | (simp; omega)))⟩
                case measure => first | (simp [intOf]; done) | (simp [intOf]; omega)
              · have hmn : ¬ n = m := fun e => hnm e.symm
                go_wp2_with (go_at_call 67; refine (l16Two_any _ _).mono ?_; rintro e _ ⟨rfl, rfl⟩)
                go_roundw
                case rel => exact ⟨j, (l.set n true).set m true, by omega, by go_num, (by first | (go_simp; done) | assumption), (by first | (go_simp; done) | assumption), by first | exact HLL.out | (simp; exact HLL.out), by first | exact HST.out.symm.trans HLV.out | (have hq := HST.out.symm.trans HLV.out; simpa [liveStep, usesA, usesB] using hq), ((HO.out.putB n true).putB m true).alloc _, (by (repeat (first | with_reducible exact Below.refl _ _ | (with_reducible refine bel_next ?_ ?_ (by assumption)) | (with_reducible refine Below.alloc ?_ ?_ _) | (with_reducible refine Below.drew ?_) | (with_reducible refine below_drewN ?_ _) | (with_reducible refine Below.setCell ?_ ?_ _))) <;> (first | omega | (simp; done) | (simp; omega)))⟩
                case measure => first | (simp [intOf]; done) | (simp [intOf]; omega)
            · obtain ⟨n, rfl⟩ := Int.eq_ofNat_of_zero_le q1
              obtain ⟨f1, f2⟩ := HO.out.bool n (by have := HLL.out; omega)
              have n1 : n ≠ j := by omega
              have n2 : j ≠ n := by omega
              have n3 : (n : Int) < (gs.length : Int) := by omega
              go_wp2_with (go_at_call 67; refine (l16Two_any _ _).mono ?_; rintro e _ ⟨rfl, rfl⟩)
              go_roundw
              case rel => exact ⟨j, l.set n true, by omega, by go_num, (by first | (go_simp; done) | assumption), (by first | (go_simp; done) | assumption), by first | exact HLL.out | (simp; exact HLL.out), by first | exact HST.out.symm.trans HLV.out | (have hq := HST.out.symm.trans HLV.out; simpa [liveStep, usesA, usesB] using hq), (HO.out.putB n true).alloc _, (by (repeat (first | with_reducible exact Below.refl _ _ | (with_reducible refine bel_next ?_ ?_ (by assumption)) | (with_reducible refine Below.alloc ?_ ?_ _) | (with_reducible refine Below.drew ?_) | (with_reducible refine below_drewN ?_ _) | (with_reducible refine Below.setCell ?_ ?_ _))) <;> (first | omega | (simp; done) | (simp; omega)))⟩
              case measure => first | (simp [intOf]; done) | (simp [intOf]; omega)
end Go.Proofs.Ytfpblgbokmpmjaa

/- The walk of the law FnSources. -/
import Derived.Test.YtigefmobejclaaaDoorSrcP
import Derived.Test.YtigefmobejclaaaDoorDrProg
import Derived.Test.YtigefmobejclaaaDoorPlaces
import Derived.BigQuiet
namespace Go.Proofs.YtigefmobejclaaaDoor
open Go.RowKit
set_option linter.unusedVariables false
set_option linter.unusedSimpArgs false

set_option maxHeartbeats 1000000 in
theorem sameStmts_same (xs : List St) (ad ad' : Option Addr) (c c' : Nat) (w : World) (hm : xs.length ≤ 1048576) (hr : RdC w ad (stCells xs)) (hr' : RdC w ad' (stCells xs)) :
    Calls Tryd.prog 26 #[.slice ad xs.length c, .slice ad' xs.length c'] w fun e w' => e = .returned (.bool true) ∧ ∃ n, w' = w.drewN n := by
  go_enter Tryd.func26, Tryd.ntmps26
  go_wp2_with fail
  go_loopw [5] (fun i wr => ∃ k : Nat, k ≤ xs.length ∧ i = .int .i64 k ∧ ∃ m, wr = w.drewN m) (fun i _ => xs.length - (intOf i).toNat)
  case atStart => exact ⟨0, Nat.zero_le _, rfl, 0, rfl⟩
  case round =>
    obtain ⟨k, hk, rfl, m, hw⟩ := hrel
    have HW := Lib.hid hw
    by_cases hlt : k < xs.length
    · obtain ⟨b, off, op, dst, a, b_, c_, n, rfl, hbl, hx, c0, c1, c2, c3, c4, c5⟩ := (show RdC wr ad (stCells xs) from by rw [hw]; exact hr.drewN m).st k hlt
      obtain ⟨b', off', op', dst', a', b_', c_', n', rfl, hbl', hx', c0', c1', c2', c3', c4', c5'⟩ := (show RdC wr ad' (stCells xs) from by rw [hw]; exact hr'.drewN m).st k hlt
      rw [hx] at hx'
      simp only [Option.some.injEq, St.mk.injEq] at hx'
      obtain ⟨rfl, rfl, rfl, rfl, rfl, rfl⟩ := hx'
      have hi : (k : Int) < (xs.length : Int) := by omega
      clear hr hr' hx hw
      go_wp2_with fail
      go_quiet (fail)
      go_wp2_with fail
      go_roundw
      case rel => exact ⟨k + 1, by omega, by go_num, m + nq, by rw [HW.out, World.drewN_drewN]⟩
      case measure => simp [intOf]; omega
    · clear hw
      go_wp2_with fail
      go_ret
      exact ⟨rfl, m, HW.out⟩

set_option maxRecDepth 100000 in
set_option maxHeartbeats 8000000 in
theorem walk_FnSources (w : World) (xs : List Int) (ad : Option Addr) (c : Nat) (hm : xs.length ≤ maxLen) (hr : RdC w ad (xs.map (Value.int .u8))) (hb : ∀ x ∈ xs, 0 ≤ x ∧ x ≤ 255) (hw : Laid w) :
    Calls Tryd.prog 7 #[.slice ad xs.length c] w fun e w' => e = .returned (.bool true) ∧ Below w.heap.size w w' := by
  have HW := Lib.hid hw
  clear hw
  unfold maxLen at hm
  by_cases hsz : xs.length ≤ 1048576
  case neg =>
    go_enter Tryd.func7, Tryd.ntmps7
    go_wp2_with (first | (go_at_call 23; go_in) | fail)
    go_ret
    exact ⟨rfl, Below.refl _ _⟩
  go_enter Tryd.func7, Tryd.ntmps7
  go_wp2_with (first | (go_at_call 23; go_in) | fail)
  refine (DrawProgram_any xs ad c w hsz hr hb).mono ?_
  rintro e w1 ⟨gp, cp, l, rfl, hp, hol, hb1⟩
  obtain ⟨us', hus'⟩ := hp.ur
  have hl40 := hp.len
  have hok : progOk l = true := ur_progOk (ur_mono hus' (by omega)) hl40
  obtain ⟨r2, hr2⟩ := hp.two
  have hl2 : 2 ≤ l.length := by rw [hr2]; simp
  have HOK := Lib.hid hok
  have HL := Lib.hid hol.rd
  have hlM : l.length ≤ maxLen := by unfold maxLen; omega
  have z1 := hb1.size
  have ge1 := hol.ge
  clear hp hol hok hr2 hus'
  go_wp2_with fail
  refine (DrawPlaces_any xs ad c _ hsz (hr.below (by (repeat (first | with_reducible exact Below.refl _ _ | (with_reducible refine bel_next ?_ ?_ (by assumption)) | (with_reducible refine Below.alloc ?_ ?_ _) | (with_reducible refine Below.drew ?_) | (with_reducible refine below_drewN ?_ _) | (with_reducible refine Below.setCell ?_ ?_ _))) <;> (first | omega | (simp; done) | (simp; omega)))) hb).mono ?_
  rintro e w2 ⟨a', c', rfl, ⟨vs, hl, hv, hown⟩, hb2⟩
  obtain ⟨b, rfl, hcell⟩ := hown.at2 (by omega)
  have p0 := hcell 0 (by omega)
  obtain ⟨x00, x01⟩ := hv vs[0] (List.getElem_mem _)
  generalize vs[0] = x0 at *
  have z2 := hb2.size
  have hlb := lt_of_cell p0
  simp only at hlb
  clear hl hv hcell hown
  have hkr : 0 ≤ x0 % (l.length : Int) ∧ x0 % (l.length : Int) < l.length := ⟨Int.emod_nonneg _ (by omega), Int.emod_lt_of_pos _ (by omega)⟩
  obtain ⟨kk, hkk⟩ := Int.eq_ofNat_of_zero_le hkr.1
  have hkl : kk < l.length := by omega
  have HFP := Lib.hid (fun W h h2 => iFormatProgram_any l (some ⟨gp, 0, none⟩) cp W hlM h h2)
  have ht := progText_le HOK.out
  have HP1 := Lib.hid (fun W h => iParseProgram_any (progText l) (by omega) W h)
  have HP2 := Lib.hid (fun W h => iParseProgram_any (progText l ++ wrongB) (by rw [List.length_append]; show _ + 5 ≤ _; omega) W h)
  unfold IsPP at HP1 HP2
  rw [pp_prog HOK.out] at HP1
  rw [pp_wrong HOK.out, bA_append] at HP2
  have hpo : progO l = progText l := by unfold progO; rw [if_pos HOK.out]
  rw [hpo, HOK.out] at HFP
  clear hpo
  generalize progText l = t at ht HFP HP1 HP2
  have HL2 := Lib.hid (HL.out.below hb2)
  have HL1 := HL
  obtain ⟨b0, off0, op, dst, sa, sb, sc, sn, hadr, hbl0, hx, c0, c1, c2, c3, c4, c5⟩ := HL2.out.st kk hkl
  simp only [Option.some.injEq, Addr.mk.injEq, and_true] at hadr
  obtain ⟨rfl, rfl⟩ := hadr
  simp only [Nat.zero_add] at c0 c1 c2 c3 c4 c5
  have hst := stok_atF HOK.out hx
  have HFS := Lib.hid (fun W h => iFormatStmt_any ⟨op, dst, sa, sb, sc, sn⟩ W h)
  rw [fmtO_ok hst, hst] at HFS
  have hs60 := fmtS_len hst
  have HPS := Lib.hid (fun W h => iPst_any (fmtS ⟨op, dst, sa, sb, sc, sn⟩) (by omega) W h)
  rw [pst_fmtS hst] at HPS
  generalize fmtS ⟨op, dst, sa, sb, sc, sn⟩ = t2 at HFS hs60 HPS
  unfold stV at HFS HPS
  simp only at HFS HPS
  clear hx hst
  go_wp2_with fail
  refine (HFP.out _ (HL1.out.below (by (repeat (first | with_reducible exact Below.refl _ _ | (with_reducible refine bel_next ?_ ?_ (by assumption)) | (with_reducible refine Below.alloc ?_ ?_ _) | (with_reducible refine Below.drew ?_) | (with_reducible refine below_drewN ?_ _) | (with_reducible refine Below.setCell ?_ ?_ _))) <;> (first | omega | (simp; done) | (simp; omega)))) (HW.out.below (by (repeat (first | with_reducible exact Below.refl _ _ | (with_reducible refine bel_next ?_ ?_ (by assumption)) | (with_reducible refine Below.alloc ?_ ?_ _) | (with_reducible refine Below.drew ?_) | (with_reducible refine below_drewN ?_ _) | (with_reducible refine Below.setCell ?_ ?_ _))) <;> (first | omega | (simp; done) | (simp; omega)))).words).mono ?_
  rintro e w3 ⟨rfl, hb3⟩
  have z3 := hb3.size; (try simp at z3); have y3_0 : b < w3.heap.size := (by omega); have y3_1 : gp < w3.heap.size := (by omega); have k3_0 := bel_keeps hb3 (b := b) (o := 0) (v := .int .i64 x0) (by go_simp); have k3_1 := bel_keeps hb3 (b := gp) (o := kk * 6) (v := .int .i64 op) (by go_simp); have k3_2 := bel_keeps hb3 (b := gp) (o := kk * 6 + 1) (v := .int .i64 dst) (by go_simp); have k3_3 := bel_keeps hb3 (b := gp) (o := kk * 6 + 2) (v := .int .i64 sa) (by go_simp); have k3_4 := bel_keeps hb3 (b := gp) (o := kk * 6 + 3) (v := .int .i64 sb) (by go_simp); have k3_5 := bel_keeps hb3 (b := gp) (o := kk * 6 + 4) (v := .int .i64 sc) (by go_simp); have k3_6 := bel_keeps hb3 (b := gp) (o := kk * 6 + 5) (v := .int .i64 sn) (by go_simp)
  go_wp2_with fail
  refine (HP1.out _ (HW.out.below (by (repeat (first | with_reducible exact Below.refl _ _ | (with_reducible refine bel_next ?_ ?_ (by assumption)) | (with_reducible refine Below.alloc ?_ ?_ _) | (with_reducible refine Below.drew ?_) | (with_reducible refine below_drewN ?_ _) | (with_reducible refine Below.setCell ?_ ?_ _))) <;> (first | omega | (simp; done) | (simp; omega))))).mono ?_
  rintro e w4 ⟨⟨a4, e4, rfl, ho4⟩, hb4⟩
  have HR4 := Lib.hid ho4.rd
  clear ho4
  have z4 := hb4.size; (try simp at z4); have y4_0 : b < w4.heap.size := (by omega); have y4_1 : gp < w4.heap.size := (by omega); have k4_0 := bel_keeps hb4 (b := b) (o := 0) (v := .int .i64 x0) (by go_simp); have k4_1 := bel_keeps hb4 (b := gp) (o := kk * 6) (v := .int .i64 op) (by go_simp); have k4_2 := bel_keeps hb4 (b := gp) (o := kk * 6 + 1) (v := .int .i64 dst) (by go_simp); have k4_3 := bel_keeps hb4 (b := gp) (o := kk * 6 + 2) (v := .int .i64 sa) (by go_simp); have k4_4 := bel_keeps hb4 (b := gp) (o := kk * 6 + 3) (v := .int .i64 sb) (by go_simp); have k4_5 := bel_keeps hb4 (b := gp) (o := kk * 6 + 4) (v := .int .i64 sc) (by go_simp); have k4_6 := bel_keeps hb4 (b := gp) (o := kk * 6 + 5) (v := .int .i64 sn) (by go_simp)
  go_wp2_with fail
  refine (HFS.out _ (HW.out.below (by (repeat (first | with_reducible exact Below.refl _ _ | (with_reducible refine bel_next ?_ ?_ (by assumption)) | (with_reducible refine Below.alloc ?_ ?_ _) | (with_reducible refine Below.drew ?_) | (with_reducible refine below_drewN ?_ _) | (with_reducible refine Below.setCell ?_ ?_ _))) <;> (first | omega | (simp; done) | (simp; omega)))).words).mono ?_
  rintro e w5 ⟨rfl, hb5⟩
  have z5 := hb5.size; (try simp at z5); have y5_0 : b < w5.heap.size := (by omega); have y5_1 : gp < w5.heap.size := (by omega); have k5_0 := bel_keeps hb5 (b := b) (o := 0) (v := .int .i64 x0) (by go_simp); have k5_1 := bel_keeps hb5 (b := gp) (o := kk * 6) (v := .int .i64 op) (by go_simp); have k5_2 := bel_keeps hb5 (b := gp) (o := kk * 6 + 1) (v := .int .i64 dst) (by go_simp); have k5_3 := bel_keeps hb5 (b := gp) (o := kk * 6 + 2) (v := .int .i64 sa) (by go_simp); have k5_4 := bel_keeps hb5 (b := gp) (o := kk * 6 + 3) (v := .int .i64 sb) (by go_simp); have k5_5 := bel_keeps hb5 (b := gp) (o := kk * 6 + 4) (v := .int .i64 sc) (by go_simp); have k5_6 := bel_keeps hb5 (b := gp) (o := kk * 6 + 5) (v := .int .i64 sn) (by go_simp)
  go_wp2_with fail
  refine (HPS.out _ (HW.out.below (by (repeat (first | with_reducible exact Below.refl _ _ | (with_reducible refine bel_next ?_ ?_ (by assumption)) | (with_reducible refine Below.alloc ?_ ?_ _) | (with_reducible refine Below.drew ?_) | (with_reducible refine below_drewN ?_ _) | (with_reducible refine Below.setCell ?_ ?_ _))) <;> (first | omega | (simp; done) | (simp; omega))))).mono ?_
  rintro e w6 ⟨rfl, hb6⟩
  have z6 := hb6.size; (try simp at z6); have y6_0 : b < w6.heap.size := (by omega); have y6_1 : gp < w6.heap.size := (by omega); have k6_0 := bel_keeps hb6 (b := b) (o := 0) (v := .int .i64 x0) (by go_simp); have k6_1 := bel_keeps hb6 (b := gp) (o := kk * 6) (v := .int .i64 op) (by go_simp); have k6_2 := bel_keeps hb6 (b := gp) (o := kk * 6 + 1) (v := .int .i64 dst) (by go_simp); have k6_3 := bel_keeps hb6 (b := gp) (o := kk * 6 + 2) (v := .int .i64 sa) (by go_simp); have k6_4 := bel_keeps hb6 (b := gp) (o := kk * 6 + 3) (v := .int .i64 sb) (by go_simp); have k6_5 := bel_keeps hb6 (b := gp) (o := kk * 6 + 4) (v := .int .i64 sc) (by go_simp); have k6_6 := bel_keeps hb6 (b := gp) (o := kk * 6 + 5) (v := .int .i64 sn) (by go_simp)
  have HR6 := Lib.hid ((HR4.out.below hb5).below hb6)
  have HL6 := Lib.hid ((((HL2.out.below hb3).below hb4).below hb5).below hb6)
  clear HR4 HL2 HL1 HL
  go_wp2_with fail
  refine (HP2.out _ (HW.out.below (by (repeat (first | with_reducible exact Below.refl _ _ | (with_reducible refine bel_next ?_ ?_ (by assumption)) | (with_reducible refine Below.alloc ?_ ?_ _) | (with_reducible refine Below.drew ?_) | (with_reducible refine below_drewN ?_ _) | (with_reducible refine Below.setCell ?_ ?_ _))) <;> (first | omega | (simp; done) | (simp; omega))))).mono ?_
  rintro e w7 ⟨⟨a7, e7, rfl, ho7⟩, hb7⟩
  have z7 := hb7.size; (try simp at z7); have y7_0 : b < w7.heap.size := (by omega); have y7_1 : gp < w7.heap.size := (by omega); have y7_2 : w6.heap.size < w7.heap.size := (by omega); have k7_0 := bel_keeps hb7 (b := b) (o := 0) (v := .int .i64 x0) (by go_simp); have k7_1 := bel_keeps hb7 (b := gp) (o := kk * 6) (v := .int .i64 op) (by go_simp); have k7_2 := bel_keeps hb7 (b := gp) (o := kk * 6 + 1) (v := .int .i64 dst) (by go_simp); have k7_3 := bel_keeps hb7 (b := gp) (o := kk * 6 + 2) (v := .int .i64 sa) (by go_simp); have k7_4 := bel_keeps hb7 (b := gp) (o := kk * 6 + 3) (v := .int .i64 sb) (by go_simp); have k7_5 := bel_keeps hb7 (b := gp) (o := kk * 6 + 4) (v := .int .i64 sc) (by go_simp); have k7_6 := bel_keeps hb7 (b := gp) (o := kk * 6 + 5) (v := .int .i64 sn) (by go_simp); have k7_7 := bel_keeps hb7 (b := w6.heap.size) (o := 0) (v := .int .i64 op) (by go_simp); have k7_8 := bel_keeps hb7 (b := w6.heap.size) (o := 1) (v := .int .i64 dst) (by go_simp); have k7_9 := bel_keeps hb7 (b := w6.heap.size) (o := 2) (v := .int .i64 sa) (by go_simp); have k7_10 := bel_keeps hb7 (b := w6.heap.size) (o := 3) (v := .int .i64 sb) (by go_simp); have k7_11 := bel_keeps hb7 (b := w6.heap.size) (o := 4) (v := .int .i64 sc) (by go_simp); have k7_12 := bel_keeps hb7 (b := w6.heap.size) (o := 5) (v := .int .i64 sn) (by go_simp)
  clear ho7
  have hb67 : Below w6.heap.size w6 w7 := (by (repeat (first | with_reducible exact Below.refl _ _ | (with_reducible refine bel_next ?_ ?_ (by assumption)) | (with_reducible refine Below.alloc ?_ ?_ _) | (with_reducible refine Below.drew ?_) | (with_reducible refine below_drewN ?_ _) | (with_reducible refine Below.setCell ?_ ?_ _))) <;> (first | omega | (simp; done) | (simp; omega)))
  have HR7 := Lib.hid (HR6.out.below hb67)
  have HL7 := Lib.hid (HL6.out.below hb67)
  clear hb67
  have hq1 : (0 : Int) ≤ x0 % (l.length : Int) := hkr.1
  have hq2 : x0 % (l.length : Int) < (l.length : Int) := hkr.2
  have hbf : Below w.heap.size w w7 := (by (repeat (first | with_reducible exact Below.refl _ _ | (with_reducible refine bel_next ?_ ?_ (by assumption)) | (with_reducible refine Below.alloc ?_ ?_ _) | (with_reducible refine Below.drew ?_) | (with_reducible refine below_drewN ?_ _) | (with_reducible refine Below.setCell ?_ ?_ _))) <;> (first | omega | (simp; done) | (simp; omega)))
  have HBF := Lib.hid hbf
  clear hb1 hb2 hb3 hb4 hb5 hb6 hb7 hbf
  go_wp2_with fail
  go_quiet (first | (go_at_call 26; refine Calls.quiet_of (sameStmts_same l _ _ _ _ _ (by omega) (HR7.out.drewN _) (HL7.out.drewN _))))
  go_wp2_with fail
  go_ret
  have hbx := HBF.out
  exact ⟨rfl, below_drewN hbx _⟩
end Go.Proofs.YtigefmobejclaaaDoor

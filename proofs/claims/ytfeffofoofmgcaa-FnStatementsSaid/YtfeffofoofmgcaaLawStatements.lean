/- The walk of the law FnStatements. -/
import Derived.Test.YtfeffofoofmgcaaProgFacts
namespace Go.Proofs.Ytfeffofoofmgcaa
open Go.RowKit
set_option linter.unusedVariables false
set_option linter.unusedSimpArgs false

set_option maxRecDepth 20000 in
set_option maxHeartbeats 8000000 in
theorem walk_FnStatements (w : World) (xs : List Int) (ad : Option Addr) (c : Nat) (hm : xs.length ≤ maxLen) (hr : RdC w ad (xs.map (Value.int .u8))) (hb : ∀ x ∈ xs, 0 ≤ x ∧ x ≤ 255) :
    Calls Try.prog 13 #[.slice ad xs.length c] w fun e w' => e = .returned (.bool true) ∧ Below w.heap.size w w' := by
  unfold maxLen at hm
  by_cases hsz : xs.length ≤ 1048576
  case neg =>
    go_enter Try.func13, Try.ntmps13
    go_wp2_with (first | (go_at_call 65; go_in) | fail)
    go_ret
    exact ⟨rfl, Below.refl _ _⟩
  go_enter Try.func13, Try.ntmps13
  go_wp2_with (first | (go_at_call 65; go_in) | fail)
  refine (DrawProgram_any xs ad c w hsz hr hb).mono ?_
  rintro e w1 ⟨gp, cp, l, rfl, hp, hol, hb1⟩
  have hncp : l.length ≤ cp := hol.cap
  have hcm : cp ≤ maxLen := hol.capMax
  obtain ⟨us', hus'⟩ := hp.ur
  have hl40 := hp.len
  have hok : progOk l = true := ur_progOk (ur_mono hus' (by omega)) hl40
  obtain ⟨r2, hr2⟩ := hp.two
  have hl2 : 2 ≤ l.length := by rw [hr2]; simp
  have HOK := Lib.hid hok
  have HP := Lib.hid hp
  have HL := Lib.hid hol.rd
  have HTWO := Lib.hid hr2
  have hlM : l.length ≤ maxLen := by unfold maxLen; omega
  have z1 := hb1.size
  have ge1 := hol.ge
  have HOL := Lib.hid hol
  clear hp hol hok hr2 hus'
  go_wp2_with fail
  refine (DrawPlaces_any xs ad c _ hsz (hr.below (by (repeat (first | with_reducible exact Below.refl _ _ | (with_reducible refine bel_next ?_ ?_ (by assumption)) | (with_reducible refine Below.alloc ?_ ?_ _) | (with_reducible refine Below.drew ?_) | (with_reducible refine below_drewN ?_ _) | (with_reducible refine Below.setCell ?_ ?_ _))) <;> (first | omega | (simp; done) | (simp; omega)))) hb).mono ?_
  rintro e w2 ⟨a', c', rfl, ⟨vs, hl, hv, hown⟩, hb2⟩
  obtain ⟨b, rfl, hcell⟩ := hown.at2 (by omega)
  have p0 := hcell 0 (by omega)
  obtain ⟨x00, x01⟩ := hv vs[0] (List.getElem_mem _)
  generalize vs[0] = x0 at *
  have z2 := hb2.size
  have hlb := lt_of_cell p0
  clear hl hv hcell hown

  have hkr : 0 ≤ x0 % (l.length : Int) ∧ x0 % (l.length : Int) < l.length := ⟨Int.emod_nonneg _ (by omega), Int.emod_lt_of_pos _ (by omega)⟩
  obtain ⟨kk, hkk⟩ := Int.eq_ofNat_of_zero_le hkr.1
  have hkl : kk < l.length := by omega
  obtain ⟨b0, off0, op, dst, sa, sb, sc, sn, hadr, hbl0, hx, c0, c1, c2, c3, c4, c5⟩ := (show RdC w2 (some ⟨gp, 0, none⟩) (stCells l) from HL.out.below hb2).st kk hkl
  simp only [Option.some.injEq, Addr.mk.injEq, and_true] at hadr
  obtain ⟨rfl, rfl⟩ := hadr
  simp only [Nat.zero_add] at c0 c1 c2 c3 c4 c5
  have hst := stok_at HOK.out hx

  clear hx
  have HST := Lib.hid hst
  have HPT := Lib.hid (parties_two HOK.out HTWO.out)
  have hh := stok_regs hst
  simp only at hh
  have HRB := Lib.hid (fun r (h : r ∈ readsOf ⟨op, dst, sa, sb, sc, sn⟩) => reads_regs r h)
  have hrl := reads_len ⟨op, dst, sa, sb, sc, sn⟩
  have hW : (writesOf ⟨op, dst, sa, sb, sc, sn⟩ = -1 ∧ 11 ≤ op) ∨ (0 ≤ writesOf ⟨op, dst, sa, sb, sc, sn⟩ ∧ writesOf ⟨op, dst, sa, sb, sc, sn⟩ ≤ 7 ∧ op ≤ 10) := by
    by_cases h : op ≤ 10
    · right; simp [writesOf, hst, h]; omega
    · left; simp [writesOf, h]; omega
  have hR : 11 ≤ op → ((op = 11 ∧ (readsOf ⟨op, dst, sa, sb, sc, sn⟩).length = 1) ∨ (¬ op = 11 ∧ (readsOf ⟨op, dst, sa, sb, sc, sn⟩).length = 0)) := by
    intro h
    have e39 : inB op 3 9 = false := inB_false.2 (by omega)
    by_cases h11 : op = 11
    · left; subst h11; exact ⟨rfl, by simp [readsOf, hst, inB]⟩
    · right; exact ⟨h11, by simp [readsOf, hst, e39, h11]; omega⟩
  obtain ⟨rd, hrd⟩ : ∃ r, r = readsOf ⟨op, dst, sa, sb, sc, sn⟩ := ⟨_, rfl⟩
  obtain ⟨wo, hwo⟩ : ∃ r, r = writesOf ⟨op, dst, sa, sb, sc, sn⟩ := ⟨_, rfl⟩
  obtain ⟨po, hpo⟩ : ∃ r, r = partiesOf l := ⟨_, rfl⟩
  rw [← hrd] at HRB hrl hR
  rw [← hwo] at hW
  rw [← hpo] at HPT
  have hpo2 : 2 ≤ po := HPT.out
  have HRD := Lib.hid hrd
  have HWO := Lib.hid hwo
  have HPO := Lib.hid hpo
  clear hrd hwo hpo hst
  go_wp2_with fail
  simp only [hkk]
  go_wp2_with fail
  refine (iReadsOf_any ⟨op, dst, sa, sb, sc, sn⟩ _).mono ?_
  rintro e w3 ⟨ar, cr, rfl, hrr, hb3⟩
  rw [← HRD.out] at hrr
  rw [← HRD.out]
  have z3 := hb3.size; (try simp at z3); have y3_0 : w2.heap.size < w3.heap.size := (by omega); have k3_0 := bel_keeps hb3 (b := w2.heap.size) (o := 0) (v := .int .i64 op) (by go_simp); have k3_1 := bel_keeps hb3 (b := w2.heap.size) (o := 1) (v := .int .i64 dst) (by go_simp); have k3_2 := bel_keeps hb3 (b := w2.heap.size) (o := 2) (v := .int .i64 sa) (by go_simp); have k3_3 := bel_keeps hb3 (b := w2.heap.size) (o := 3) (v := .int .i64 sb) (by go_simp); have k3_4 := bel_keeps hb3 (b := w2.heap.size) (o := 4) (v := .int .i64 sc) (by go_simp); have k3_5 := bel_keeps hb3 (b := w2.heap.size) (o := 5) (v := .int .i64 sn) (by go_simp)
  have HRR := Lib.hid hrr
  clear hrr
  go_wp2_with fail
  refine (iWritesOf_any ⟨op, dst, sa, sb, sc, sn⟩ _).mono ?_
  rw [← HWO.out]
  rintro e w4 ⟨rfl, hb4⟩
  have z4 := hb4.size; (try simp at z4); have y4_0 : w2.heap.size < w4.heap.size := (by omega); have k4_0 := bel_keeps hb4 (b := w2.heap.size) (o := 0) (v := .int .i64 op) (by go_simp); have k4_1 := bel_keeps hb4 (b := w2.heap.size) (o := 1) (v := .int .i64 dst) (by go_simp); have k4_2 := bel_keeps hb4 (b := w2.heap.size) (o := 2) (v := .int .i64 sa) (by go_simp); have k4_3 := bel_keeps hb4 (b := w2.heap.size) (o := 3) (v := .int .i64 sb) (by go_simp); have k4_4 := bel_keeps hb4 (b := w2.heap.size) (o := 4) (v := .int .i64 sc) (by go_simp); have k4_5 := bel_keeps hb4 (b := w2.heap.size) (o := 5) (v := .int .i64 sn) (by go_simp)
  go_wp2_with fail
  go_loop [8] (fun i => ∃ k : Nat, k ≤ rd.length ∧ i = .int .i64 k) (fun i => rd.length - (intOf i).toNat)
  case atStart => exact ⟨0, Nat.zero_le _, rfl⟩
  case round =>
    obtain ⟨k, hk, rfl⟩ := hrel
    by_cases hlt : k < rd.length
    · obtain ⟨b3, off3, rfl, hc3⟩ := (HRR.out.below hb4).at k hlt
      have hck := hc3 k hlt
      obtain ⟨hr0, hr7⟩ := HRB.out rd[k] (List.getElem_mem hlt)
      generalize rd[k] = rr at hck hr0 hr7
      have hi1 : (k : Int) < (rd.length : Int) := by omega
      have t1 : decide (rr < 0) = false := by simp; omega
      have t2 : decide (8 ≤ rr) = false := by simp; omega
      clear hc3
      go_wp2_with fail
      go_round
      case rel => exact ⟨k + 1, by omega, by go_num⟩
      case measure => simp [intOf]; omega
    · have hkk2 : k = rd.length := by omega
      rcases hW with ⟨hw, h11⟩ | ⟨hw0, hw7, h10⟩
      · rcases hR h11 with ⟨ho, hl1⟩ | ⟨ho, hl0⟩
        ·
          subst ho
          subst hw
          have t1 : ((rd.length : Int) == 1) = true := by simp; omega
          have t2 : decide (2 ≤ po) = true := decide_eq_true hpo2
          go_wp2_with (first | (go_at_call 70; refine (iStmtOk_any ⟨11, dst, sa, sb, sc, sn⟩ _).mono ?_; rintro e w5 ⟨rfl, hb5⟩; rw [HST.out]; have z5 := hb5.size; (try simp at z5); have y5_0 : w2.heap.size < w5.heap.size := (by omega); have k5_0 := bel_keeps hb5 (b := w2.heap.size) (o := 0) (v := .int .i64 11) (by go_simp)) | (go_at_call 71; refine (iProgramOk_any l _ _ _ hlM (HL.out.below (by (repeat (first | with_reducible exact Below.refl _ _ | (with_reducible refine bel_next ?_ ?_ (by assumption)) | (with_reducible refine Below.alloc ?_ ?_ _) | (with_reducible refine Below.drew ?_) | (with_reducible refine below_drewN ?_ _) | (with_reducible refine Below.setCell ?_ ?_ _))) <;> (first | omega | (simp; done) | (simp; omega))))).mono ?_; rintro e w6 ⟨rfl, hb6⟩; rw [HOK.out]; have z6 := hb6.size; (try simp at z6); have y6_0 : w2.heap.size < w6.heap.size := (by omega); have k6_0 := bel_keeps hb6 (b := w2.heap.size) (o := 0) (v := .int .i64 11) (by go_simp)) | (go_at_call 24; refine (iPartiesOf_any l _ _ _ hlM (HL.out.below (by (repeat (first | with_reducible exact Below.refl _ _ | (with_reducible refine bel_next ?_ ?_ (by assumption)) | (with_reducible refine Below.alloc ?_ ?_ _) | (with_reducible refine Below.drew ?_) | (with_reducible refine below_drewN ?_ _) | (with_reducible refine Below.setCell ?_ ?_ _))) <;> (first | omega | (simp; done) | (simp; omega))))).mono ?_; rw [← HPO.out]; rintro e w7 ⟨rfl, hb7⟩; have z7 := hb7.size))
          all_goals go_ret
          all_goals exact ⟨ret_bool (by simp [*] <;> omega), (by (repeat (first | with_reducible exact Below.refl _ _ | (with_reducible refine bel_next ?_ ?_ (by assumption)) | (with_reducible refine Below.alloc ?_ ?_ _) | (with_reducible refine Below.drew ?_) | (with_reducible refine below_drewN ?_ _) | (with_reducible refine Below.setCell ?_ ?_ _))) <;> (first | omega | (simp; done) | (simp; omega)))⟩
        ·
          subst hw
          have t1 : ((rd.length : Int) == 1) = false := by simp; omega
          have t0 : (op == 11) = false := by simp [ho]
          have t2 : decide (2 ≤ po) = true := decide_eq_true hpo2
          go_wp2_with (first | (go_at_call 70; refine (iStmtOk_any ⟨op, dst, sa, sb, sc, sn⟩ _).mono ?_; rintro e w5 ⟨rfl, hb5⟩; rw [HST.out]; have z5 := hb5.size; (try simp at z5); have y5_0 : w2.heap.size < w5.heap.size := (by omega); have k5_0 := bel_keeps hb5 (b := w2.heap.size) (o := 0) (v := .int .i64 op) (by go_simp)) | (go_at_call 71; refine (iProgramOk_any l _ _ _ hlM (HL.out.below (by (repeat (first | with_reducible exact Below.refl _ _ | (with_reducible refine bel_next ?_ ?_ (by assumption)) | (with_reducible refine Below.alloc ?_ ?_ _) | (with_reducible refine Below.drew ?_) | (with_reducible refine below_drewN ?_ _) | (with_reducible refine Below.setCell ?_ ?_ _))) <;> (first | omega | (simp; done) | (simp; omega))))).mono ?_; rintro e w6 ⟨rfl, hb6⟩; rw [HOK.out]; have z6 := hb6.size; (try simp at z6); have y6_0 : w2.heap.size < w6.heap.size := (by omega); have k6_0 := bel_keeps hb6 (b := w2.heap.size) (o := 0) (v := .int .i64 op) (by go_simp)) | (go_at_call 24; refine (iPartiesOf_any l _ _ _ hlM (HL.out.below (by (repeat (first | with_reducible exact Below.refl _ _ | (with_reducible refine bel_next ?_ ?_ (by assumption)) | (with_reducible refine Below.alloc ?_ ?_ _) | (with_reducible refine Below.drew ?_) | (with_reducible refine below_drewN ?_ _) | (with_reducible refine Below.setCell ?_ ?_ _))) <;> (first | omega | (simp; done) | (simp; omega))))).mono ?_; rw [← HPO.out]; rintro e w7 ⟨rfl, hb7⟩; have z7 := hb7.size))
          all_goals go_ret
          all_goals exact ⟨ret_bool (by simp [*] <;> omega), (by (repeat (first | with_reducible exact Below.refl _ _ | (with_reducible refine bel_next ?_ ?_ (by assumption)) | (with_reducible refine Below.alloc ?_ ?_ _) | (with_reducible refine Below.drew ?_) | (with_reducible refine below_drewN ?_ _) | (with_reducible refine Below.setCell ?_ ?_ _))) <;> (first | omega | (simp; done) | (simp; omega)))⟩
      ·
        have t1 : (wo == -1) = false := by simp; omega
        have t0 : (op == 11) = false := by simp; omega
        have t3 : decide (-1 ≤ wo) = true := decide_eq_true (by omega)
        have t4 : decide (wo < 8) = true := decide_eq_true (by omega)
        have t2 : decide (2 ≤ po) = true := decide_eq_true hpo2
        go_wp2_with (first | (go_at_call 70; refine (iStmtOk_any ⟨op, dst, sa, sb, sc, sn⟩ _).mono ?_; rintro e w5 ⟨rfl, hb5⟩; rw [HST.out]; have z5 := hb5.size; (try simp at z5); have y5_0 : w2.heap.size < w5.heap.size := (by omega); have k5_0 := bel_keeps hb5 (b := w2.heap.size) (o := 0) (v := .int .i64 op) (by go_simp)) | (go_at_call 71; refine (iProgramOk_any l _ _ _ hlM (HL.out.below (by (repeat (first | with_reducible exact Below.refl _ _ | (with_reducible refine bel_next ?_ ?_ (by assumption)) | (with_reducible refine Below.alloc ?_ ?_ _) | (with_reducible refine Below.drew ?_) | (with_reducible refine below_drewN ?_ _) | (with_reducible refine Below.setCell ?_ ?_ _))) <;> (first | omega | (simp; done) | (simp; omega))))).mono ?_; rintro e w6 ⟨rfl, hb6⟩; rw [HOK.out]; have z6 := hb6.size; (try simp at z6); have y6_0 : w2.heap.size < w6.heap.size := (by omega); have k6_0 := bel_keeps hb6 (b := w2.heap.size) (o := 0) (v := .int .i64 op) (by go_simp)) | (go_at_call 24; refine (iPartiesOf_any l _ _ _ hlM (HL.out.below (by (repeat (first | with_reducible exact Below.refl _ _ | (with_reducible refine bel_next ?_ ?_ (by assumption)) | (with_reducible refine Below.alloc ?_ ?_ _) | (with_reducible refine Below.drew ?_) | (with_reducible refine below_drewN ?_ _) | (with_reducible refine Below.setCell ?_ ?_ _))) <;> (first | omega | (simp; done) | (simp; omega))))).mono ?_; rw [← HPO.out]; rintro e w7 ⟨rfl, hb7⟩; have z7 := hb7.size))
        all_goals go_ret
        all_goals exact ⟨ret_bool (by simp [*] <;> omega), (by (repeat (first | with_reducible exact Below.refl _ _ | (with_reducible refine bel_next ?_ ?_ (by assumption)) | (with_reducible refine Below.alloc ?_ ?_ _) | (with_reducible refine Below.drew ?_) | (with_reducible refine below_drewN ?_ _) | (with_reducible refine Below.setCell ?_ ?_ _))) <;> (first | omega | (simp; done) | (simp; omega)))⟩
end Go.Proofs.Ytfeffofoofmgcaa

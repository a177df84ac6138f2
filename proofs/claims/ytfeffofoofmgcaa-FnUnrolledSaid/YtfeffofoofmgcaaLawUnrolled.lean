/- The walk of the law FnUnrolled. -/
import Derived.Test.YtfeffofoofmgcaaUnrFacts
namespace Go.Proofs.Ytfeffofoofmgcaa
open Go.RowKit
set_option linter.unusedVariables false
set_option linter.unusedSimpArgs false

set_option maxRecDepth 20000 in
set_option maxHeartbeats 8000000 in
theorem walk_FnUnrolled (w : World) (xs : List Int) (ad : Option Addr) (c : Nat) (hm : xs.length ≤ maxLen) (hr : RdC w ad (xs.map (Value.int .u8))) (hb : ∀ x ∈ xs, 0 ≤ x ∧ x ≤ 255) :
    Calls Try.prog 15 #[.slice ad xs.length c] w fun e w' => e = .returned (.bool true) ∧ Below w.heap.size w w' := by
  unfold maxLen at hm
  by_cases hsz : xs.length ≤ 1048576
  case neg =>
    go_enter Try.func15, Try.ntmps15
    go_wp2_with (first | (go_at_call 65; go_in) | fail)
    go_ret
    exact ⟨rfl, Below.refl _ _⟩
  go_enter Try.func15, Try.ntmps15
  go_wp2_with (first | (go_at_call 65; go_in) | fail)
  refine (DrawProgram_any xs ad c w hsz hr hb).mono ?_
  rintro e w1 ⟨gp, cp, l, rfl, hp, hol, hb1⟩
  have hncp : l.length ≤ cp := hol.cap
  have hcm : cp ≤ maxLen := hol.capMax
  obtain ⟨us', hus'⟩ := hp.ur
  have hl40 := hp.len
  have hok : progOk l = true := ur_progOk (ur_mono hus' (by omega)) hl40
  obtain ⟨r2, hr2⟩ := hp.two
  have hl2 : 2 ≤ l.length := by rw [hr2]; simp
  have HOK := Lib.hid hok
  have HP := Lib.hid hp
  have HL := Lib.hid hol.rd
  have HTWO := Lib.hid hr2
  have hlM : l.length ≤ maxLen := by unfold maxLen; omega
  have z1 := hb1.size
  have ge1 := hol.ge
  have HOL := Lib.hid hol
  clear hp hol hok hr2 hus'
  obtain ⟨U, hU, hSZ, hu1, hu0⟩ := unr_one HOK.out
  have HSZ := Lib.hid hSZ
  obtain ⟨d, hd⟩ : ∃ d, d = loopDepth l := ⟨_, rfl⟩
  have hdb := depth_bd HOK.out
  rw [← hd] at hdb
  have HD := Lib.hid hd
  by_cases h120 : U.length ≤ 120
  case neg =>
    have HU := Lib.hid (hu0 (by omega))
    have t0 : decide ((120 : Int) < (U.length : Int)) = true := decide_eq_true (by omega)
    clear hU hSZ hu1 hu0 hd
    go_wp2_with (first | (go_at_call 41; refine (iUnroll_any l [] _ HU.out _ _ _ hlM hncp hcm (HL.out.below (by (repeat (first | with_reducible exact Below.refl _ _ | (with_reducible refine bel_next ?_ ?_ (by assumption)) | (with_reducible refine Below.alloc ?_ ?_ _) | (with_reducible refine Below.drew ?_) | (with_reducible refine below_drewN ?_ _) | (with_reducible refine Below.setCell ?_ ?_ _))) <;> (first | omega | (simp; done) | (simp; omega))))).mono ?_; rintro e w2 ⟨a2, e2, rfl, ho2, hb2⟩; have z2 := hb2.size; have HO2 := Lib.hid ho2.rd; have HBK := Lib.hid ho2.blk; clear ho2) | (go_at_call 29; refine (iUnrolledSize_any l _ HSZ.out _ _ _ hlM hncp hcm (HL.out.below (by (repeat (first | with_reducible exact Below.refl _ _ | (with_reducible refine bel_next ?_ ?_ (by assumption)) | (with_reducible refine Below.alloc ?_ ?_ _) | (with_reducible refine Below.drew ?_) | (with_reducible refine below_drewN ?_ _) | (with_reducible refine Below.setCell ?_ ?_ _))) <;> (first | omega | (simp; done) | (simp; omega))))).mono ?_; rintro e w3 ⟨rfl, hb3⟩; have z3 := hb3.size))
    go_ret
    exact ⟨rfl, (by (repeat (first | with_reducible exact Below.refl _ _ | (with_reducible refine bel_next ?_ ?_ (by assumption)) | (with_reducible refine Below.alloc ?_ ?_ _) | (with_reducible refine Below.drew ?_) | (with_reducible refine below_drewN ?_ _) | (with_reducible refine Below.setCell ?_ ?_ _))) <;> (first | omega | (simp; done) | (simp; omega)))⟩
  have HU := Lib.hid (hu1 h120)
  have t0 : decide ((120 : Int) < (U.length : Int)) = false := decide_eq_false (by omega)
  have HPL := Lib.hid (ur_plains hU)
  have HZ : Hid (d = 0 → U = l) := fun h0 => ur_noloop hU (depth_zero HOK.out (by rw [← hd]; exact h0))
  obtain ⟨oc, hoc⟩ : ∃ q, q = outCount U true := ⟨_, rfl⟩
  have hoc1 : 1 ≤ oc := by
    obtain ⟨r, a, hra, _, _⟩ := HP.out.out
    have := cnt_pos (ur_mem hU ⟨11, 0, a, 0, 0, 0⟩ (by rw [hra]; simp) (by simp) (by simp)) rfl
    rw [hoc]; simp only [outCount, if_true]; omega
  have HQ := Lib.hid hoc
  clear hU hSZ hu1 hu0 hd hoc
  go_wp2_with (first | (go_at_call 41; refine (iUnroll_any l U _ HU.out _ _ _ hlM hncp hcm (HL.out.below (by (repeat (first | with_reducible exact Below.refl _ _ | (with_reducible refine bel_next ?_ ?_ (by assumption)) | (with_reducible refine Below.alloc ?_ ?_ _) | (with_reducible refine Below.drew ?_) | (with_reducible refine below_drewN ?_ _) | (with_reducible refine Below.setCell ?_ ?_ _))) <;> (first | omega | (simp; done) | (simp; omega))))).mono ?_; rintro e w2 ⟨a2, e2, rfl, ho2, hb2⟩; have z2 := hb2.size; have HO2 := Lib.hid ho2.rd; have HBK := Lib.hid ho2.blk; clear ho2) | (go_at_call 29; refine (iUnrolledSize_any l _ HSZ.out _ _ _ hlM hncp hcm (HL.out.below (by (repeat (first | with_reducible exact Below.refl _ _ | (with_reducible refine bel_next ?_ ?_ (by assumption)) | (with_reducible refine Below.alloc ?_ ?_ _) | (with_reducible refine Below.drew ?_) | (with_reducible refine below_drewN ?_ _) | (with_reducible refine Below.setCell ?_ ?_ _))) <;> (first | omega | (simp; done) | (simp; omega))))).mono ?_; rintro e w3 ⟨rfl, hb3⟩; have z3 := hb3.size))
  go_loop [7] (fun i => ∃ k : Nat, k ≤ U.length ∧ i = .int .i64 k) (fun i => U.length - (intOf i).toNat)
  case atStart => exact ⟨0, Nat.zero_le _, rfl⟩
  case round =>
    obtain ⟨k, hk, rfl⟩ := hrel
    by_cases hlt : k < U.length
    · obtain ⟨b, off, op, dst, sa, sb, sc, sn, rfl, hbl, hx, c0, c1, c2, c3, c4, c5⟩ := (show RdC w3 a2 (stCells U) from HO2.out.below (by (repeat (first | with_reducible exact Below.refl _ _ | (with_reducible refine bel_next ?_ ?_ (by assumption)) | (with_reducible refine Below.alloc ?_ ?_ _) | (with_reducible refine Below.drew ?_) | (with_reducible refine below_drewN ?_ _) | (with_reducible refine Below.setCell ?_ ?_ _))) <;> (first | omega | (simp; done) | (simp; omega)))).st k hlt
      have hpl := HPL.out _ (List.mem_of_getElem? hx)
      simp only at hpl
      have q12 : (op == 12) = false := by simp [hpl.2.1]
      have q13 : (op == 13) = false := by simp [hpl.2.2]
      have hi : (k : Int) < (U.length : Int) := by omega
      clear hpl hx
      go_wp2_with fail
      go_round
      case rel => exact ⟨k + 1, by omega, by go_num⟩
      case measure => simp [intOf]; omega
    · have t1 : decide (0 ≤ d) = true := decide_eq_true hdb.1
      have t2 : decide (d ≤ 3) = true := decide_eq_true hdb.2
      have t3 : decide (1 ≤ oc) = true := decide_eq_true hoc1
      by_cases hd0 : 0 < d
      · have t4 : decide (0 < d) = true := decide_eq_true hd0
        go_wp2_with (first | (go_at_call 27; refine (iLoopDepth_any l _ _ _ hlM (HL.out.below (by (repeat (first | with_reducible exact Below.refl _ _ | (with_reducible refine bel_next ?_ ?_ (by assumption)) | (with_reducible refine Below.alloc ?_ ?_ _) | (with_reducible refine Below.drew ?_) | (with_reducible refine below_drewN ?_ _) | (with_reducible refine Below.setCell ?_ ?_ _))) <;> (first | omega | (simp; done) | (simp; omega))))).mono ?_; rw [← HD.out]; rintro e w4 ⟨rfl, hb4⟩; have z4 := hb4.size) | (go_at_call 39; refine (iOutputCount_any l U _ HU.out _ _ _ hlM hncp hcm (HL.out.below (by (repeat (first | with_reducible exact Below.refl _ _ | (with_reducible refine bel_next ?_ ?_ (by assumption)) | (with_reducible refine Below.alloc ?_ ?_ _) | (with_reducible refine Below.drew ?_) | (with_reducible refine below_drewN ?_ _) | (with_reducible refine Below.setCell ?_ ?_ _))) <;> (first | omega | (simp; done) | (simp; omega))))).mono ?_; rw [← HQ.out]; rintro e w6 ⟨rfl, hb6⟩; have z6 := hb6.size))
        go_ret
        exact ⟨rfl, (by (repeat (first | with_reducible exact Below.refl _ _ | (with_reducible refine bel_next ?_ ?_ (by assumption)) | (with_reducible refine Below.alloc ?_ ?_ _) | (with_reducible refine Below.drew ?_) | (with_reducible refine below_drewN ?_ _) | (with_reducible refine Below.setCell ?_ ?_ _))) <;> (first | omega | (simp; done) | (simp; omega)))⟩
      · have t4 : decide (0 < d) = false := decide_eq_false hd0
        have hUl : Hid (U = l) := HZ.out (by omega)
        go_wp2_with (first | (go_at_call 27; refine (iLoopDepth_any l _ _ _ hlM (HL.out.below (by (repeat (first | with_reducible exact Below.refl _ _ | (with_reducible refine bel_next ?_ ?_ (by assumption)) | (with_reducible refine Below.alloc ?_ ?_ _) | (with_reducible refine Below.drew ?_) | (with_reducible refine below_drewN ?_ _) | (with_reducible refine Below.setCell ?_ ?_ _))) <;> (first | omega | (simp; done) | (simp; omega))))).mono ?_; rw [← HD.out]; rintro e w4 ⟨rfl, hb4⟩; have z4 := hb4.size) | (go_at_call 72; refine (sameStmts_eq U l hUl.out _ _ _ _ _ (by omega) (HO2.out.below (by (repeat (first | with_reducible exact Below.refl _ _ | (with_reducible refine bel_next ?_ ?_ (by assumption)) | (with_reducible refine Below.alloc ?_ ?_ _) | (with_reducible refine Below.drew ?_) | (with_reducible refine below_drewN ?_ _) | (with_reducible refine Below.setCell ?_ ?_ _))) <;> (first | omega | (simp; done) | (simp; omega)))) (HL.out.below (by (repeat (first | with_reducible exact Below.refl _ _ | (with_reducible refine bel_next ?_ ?_ (by assumption)) | (with_reducible refine Below.alloc ?_ ?_ _) | (with_reducible refine Below.drew ?_) | (with_reducible refine below_drewN ?_ _) | (with_reducible refine Below.setCell ?_ ?_ _))) <;> (first | omega | (simp; done) | (simp; omega))))).mono ?_; rintro e _ ⟨rfl, m5, rfl⟩) | (go_at_call 39; refine (iOutputCount_any l U _ HU.out _ _ _ hlM hncp hcm (HL.out.below (by (repeat (first | with_reducible exact Below.refl _ _ | (with_reducible refine bel_next ?_ ?_ (by assumption)) | (with_reducible refine Below.alloc ?_ ?_ _) | (with_reducible refine Below.drew ?_) | (with_reducible refine below_drewN ?_ _) | (with_reducible refine Below.setCell ?_ ?_ _))) <;> (first | omega | (simp; done) | (simp; omega))))).mono ?_; rw [← HQ.out]; rintro e w6 ⟨rfl, hb6⟩; have z6 := hb6.size))
        go_ret
        exact ⟨rfl, (by (repeat (first | with_reducible exact Below.refl _ _ | (with_reducible refine bel_next ?_ ?_ (by assumption)) | (with_reducible refine Below.alloc ?_ ?_ _) | (with_reducible refine Below.drew ?_) | (with_reducible refine below_drewN ?_ _) | (with_reducible refine Below.setCell ?_ ?_ _))) <;> (first | omega | (simp; done) | (simp; omega)))⟩
end Go.Proofs.Ytfeffofoofmgcaa

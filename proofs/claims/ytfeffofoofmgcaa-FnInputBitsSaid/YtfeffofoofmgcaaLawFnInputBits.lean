/- The walk of the law FnInputBits. -/
import Derived.Test.YtfeffofoofmgcaaBitFacts
import Derived.Test.YtfeffofoofmgcaaDrRun
import Derived.Test.YtfeffofoofmgcaaProgFacts
namespace Go.Proofs.Ytfeffofoofmgcaa
open Go.RowKit
set_option linter.unusedVariables false
set_option linter.unusedSimpArgs false

set_option maxRecDepth 20000 in
set_option maxHeartbeats 8000000 in
theorem walk_FnInputBits (w : World) (xs : List Int) (ad : Option Addr) (c : Nat) (hm : xs.length ≤ maxLen) (hr : RdC w ad (xs.map (Value.int .u8))) (hb : ∀ x ∈ xs, 0 ≤ x ∧ x ≤ 255) :
    Calls Try.prog 20 #[.slice ad xs.length c] w fun e w' => e = .returned (.bool true) ∧ Below w.heap.size w w' := by
  unfold maxLen at hm
  by_cases hsz : xs.length ≤ 1048576
  case neg =>
    go_enter Try.func20, Try.ntmps20
    go_wp2_with (first | (go_at_call 65; go_in) | fail)
    go_ret
    exact ⟨rfl, Below.refl _ _⟩
  go_enter Try.func20, Try.ntmps20
  go_wp2_with (first | (go_at_call 65; go_in) | fail)
  refine (DrawRun_any xs ad c w hsz hr hb).mono ?_
  rintro e w1 ⟨gp, cp, ga, ca, l, rs, rfl, hp, hol, hrs5, hin, hrd, hb1⟩
  have hncp : l.length ≤ cp := hol.cap
  have hcm : cp ≤ maxLen := hol.capMax
  obtain ⟨us', hus'⟩ := hp.ur
  have hl40 := hp.len
  have hok : progOk l = true := ur_progOk (ur_mono hus' (by omega)) hl40
  obtain ⟨r2, hr2⟩ := hp.two
  have hl2 : 2 ≤ l.length := by rw [hr2]; simp
  have HOK := Lib.hid hok
  have HP := Lib.hid hp
  have HL := Lib.hid hol.rd
  have hlM : l.length ≤ maxLen := by unfold maxLen; omega
  have z1 := hb1.size
  have ge1 := hol.ge
  have H5 := Lib.hid hrs5
  have HIN := Lib.hid hin
  have HRI := Lib.hid hrd
  have hmlR : rowsLe rs := fun r hr' => by
    have := (inputsOk_parts hin).2 r hr'
    unfold maxLen; omega
  have HML := Lib.hid hmlR
  obtain ⟨xss, hxss⟩ : ∃ x, x = rs.map Rw.xs := ⟨_, rfl⟩
  have HXS := Lib.hid hxss
  clear hp hol hok hr2 hus' hrs5 hin hrd hmlR hxss
  have hiw := input_words HIN.out
  rw [← HXS.out] at hiw
  obtain ⟨B, hB⟩ : ∃ b, b = inputBits xss := ⟨_, rfl⟩
  rw [← hB] at hiw
  obtain ⟨V, hV⟩ : ∃ b, b = wordsOf B := ⟨_, rfl⟩
  rw [← hV] at hiw
  have hB80 := hiw.1
  have hV20 : V.length = 20 := by rw [hiw.2]; simp
  have HVA : Hid (∀ p n (hp : p < rs.length) (hn : n < rs[p].xs.length) (hn4 : n < 4) (hh : 4 * p + n < V.length), V[4 * p + n] = rs[p].xs[n]) := by
    intro p n hp hn hn4 hh
    have e1 : (4 * p + n) / 4 = p := by omega
    have e2 : (4 * p + n) % 4 = n := by omega
    simp only [hiw.2, List.getElem_map, List.getElem_range, valAt, e1, e2, HXS.out]
    simp [List.getD, List.getElem?_eq_getElem hp, List.getElem?_eq_getElem hn]
  have HB := Lib.hid hB
  have HV := Lib.hid hV
  have t80 : ((B.length : Int) != 80) = false := by simp; omega
  have t20 : ((V.length : Int) != 20) = false := by simp; omega
  have HB80 := Lib.hid hB80
  have HV20 := Lib.hid hV20
  have hBM : B.length ≤ 1048576 := by omega
  clear hiw hB hV hB80 hV20
  go_wp2_with fail
  refine (iInputBits_n rs 5 H5.out xss HXS.out.symm _ _ _ (by simp [maxLen]) HML.out HRI.out).mono ?_
  rw [← HB.out]
  rintro e w2 ⟨a2, c2, rfl, ho2, hb2⟩
  have z2 := hb2.size
  go_wp2_with fail
  refine (iWordsOf_any B _ _ _ hBM ho2.rd).mono ?_
  rw [← HV.out]
  rintro e w3 ⟨a3, c3, rfl, ho3, hb3⟩
  have z3 := hb3.size
  have HW := Lib.hid ho3.rd
  have HRI3 : Hid (RdR w3 (some ⟨ga, 0, none⟩) rs) := (HRI.out.below hb2).below hb3
  clear ho2 ho3
  go_wp2_with fail
  go_loopw [7] (fun i wr => ∃ p : Nat, p ≤ 5 ∧ i = .int .i64 p ∧ Below w3.heap.size w3 wr) (fun i _ => 5 - (intOf i).toNat)
  case atStart => exact ⟨0, Nat.zero_le _, rfl, Below.refl _ _⟩
  case round =>
    obtain ⟨p, hp5, rfl, hbp⟩ := hrel
    by_cases hlp : p < 5
    · have hdp : decide ((p : Int) < 5) = true := decide_eq_true (by omega)
      go_wp2_with fail
      try rw [hdp]
      go_loopw [8] (fun j wr => ∃ n : Nat, n ≤ 4 ∧ j = .int .i64 n ∧ Below w3.heap.size w3 wr) (fun j _ => 4 - (intOf j).toNat)
      case atStart => exact ⟨0, Nat.zero_le _, rfl, hbp⟩
      case round =>
        obtain ⟨n, hn4, rfl, hbn⟩ := hrel
        have zn := hbn.size
        by_cases hln : n < 4
        · obtain ⟨b3, off3, rfl, hc3⟩ := (HW.out.below hbn).at (4 * p + n) (by have := HV20.out; omega)
          have q1 := hc3 (4 * p + n) (by have := HV20.out; omega)
          obtain ⟨bi, oi, hai, hci, hrw⟩ := (HRI3.out.below hbn).at p (by have := H5.out; omega)
          simp only [Option.some.injEq, Addr.mk.injEq, and_true] at hai
          obtain ⟨rfl, rfl⟩ := hai
          have hr4 : (rs[p]'(by have := H5.out; omega)).xs.length = 4 := by
            have := (inputsOk_parts HIN.out).2 (rs[p]'(by have := H5.out; omega)) (List.getElem_mem _)
            exact this.1
          have hval := HVA.out p n (by have := H5.out; omega) (by omega) hln (by have := HV20.out; omega)
          obtain ⟨rw', hrwe⟩ : ∃ r, r = rs[p]'(by have := H5.out; omega) := ⟨_, rfl⟩
          have hci' : wr.cell? ⟨ga, 0 + p, none⟩ = some (.slice rw'.ad rw'.xs.length rw'.cap) := by rw [hrwe]; exact hci
          rw [← hrwe] at hrw hr4
          simp only [← hrwe] at hval
          obtain ⟨bj, oj, haj, hcj⟩ := hrw.at n (by omega)
          have q2 := hcj n (by omega)
          rw [haj, hr4] at hci'
          simp only [Nat.zero_add] at hci'
          obtain ⟨y, hy⟩ : ∃ y, y = rw'.xs[n]'(by omega) := ⟨_, rfl⟩
          rw [hval, ← hy] at q1
          rw [← hy] at q2
          have hiv : (p : Int) * 4 + n < (V.length : Int) := by have := HV20.out; omega
          have hip : (p : Int) < 5 := by omega
          have hin4 : (n : Int) < 4 := by omega
          have q1' : wr.cell? ⟨b3, off3 + (p * 4 + n), none⟩ = some (.int .i64 y) := by rw [show p * 4 + n = 4 * p + n by omega]; exact q1
          clear hc3 hci hcj hval hrwe hy hr4 haj hrw q1
          go_wp2_with fail
          go_quiet (fail)
          go_wp2_with fail
          go_roundw
          case rel => exact ⟨n + 1, by omega, by go_num, below_drewN hbn nq⟩
          case measure => simp [intOf]; omega
        · obtain rfl : n = 4 := by omega
          go_wp2_with fail
          go_roundw
          case rel => exact ⟨p + 1, by omega, by go_num, hbn⟩
          case measure => simp [intOf]; omega
    · obtain rfl : p = 5 := by omega
      go_wp2_with fail
      go_ret
      have zp := hbp.size
      exact ⟨rfl, (by (repeat (first | with_reducible exact Below.refl _ _ | (with_reducible refine bel_next ?_ ?_ (by assumption)) | (with_reducible refine Below.alloc ?_ ?_ _) | (with_reducible refine Below.drew ?_) | (with_reducible refine below_drewN ?_ _) | (with_reducible refine Below.setCell ?_ ?_ _))) <;> (first | omega | (simp; done) | (simp; omega)))⟩
end Go.Proofs.Ytfeffofoofmgcaa

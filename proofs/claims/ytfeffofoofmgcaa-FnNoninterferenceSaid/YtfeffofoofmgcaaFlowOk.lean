/- FlowOk, both. -/
import Derived.Test.YtfeffofoofmgcaaDeps
namespace Go.Proofs.Ytfeffofoofmgcaa
open Go.RowKit
set_option linter.unusedVariables false
set_option linter.unusedSimpArgs false

def allowB (p : Int × Int) : Bool := !(decide (p.2 < 0)) && !(bits .andNot .i64 p.1 p.2 != 0)
def flowAll (ps : List (Int × Int)) : Bool := ps.all allowB
def flowOkB (d al : List Int) (ok : Bool) : Bool := (ok && !((d.length : Int) != (al.length : Int))) && flowAll (d.zip al)
theorem flowAll_snoc {d al : List Int} {k : Nat} (hd : k < d.length) (ha : k < al.length) (h : flowAll ((d.zip al).take k) = true) (h2 : allowB (d[k], al[k]) = true) : flowAll ((d.zip al).take (k + 1)) = true := by
  have hz : (d.zip al)[k]? = some (d[k], al[k]) := by simp [List.getElem?_zip_eq_some, hd, ha]
  rw [List.take_add_one, hz]
  simp [flowAll] at h ⊢
  exact ⟨h, h2⟩
theorem flowAll_bad {d al : List Int} {k : Nat} (hd : k < d.length) (ha : k < al.length) (h2 : allowB (d[k], al[k]) = false) : flowAll (d.zip al) = false := by
  cases h : flowAll (d.zip al)
  · rfl
  · have := List.all_eq_true.1 h (d[k], al[k]) (List.mem_of_getElem? (i := k) (by simp [List.getElem?_zip_eq_some, hd, ha]))
    rw [h2] at this; cases this

set_option maxRecDepth 20000 in
set_option maxHeartbeats 4000000 in
theorem sFlowOk_any (xs us : List St) (ok : Bool) (hv : IsUnr xs us ok) (ad : Option Addr) (cp : Nat) (al : List Int) (aa : Option Addr) (ca : Nat) (w : World) (hm : xs.length ≤ maxLen) (hcp : xs.length ≤ cp) (hcm : cp ≤ maxLen) (hr : RdC w ad (stCells xs)) (hma : al.length ≤ maxLen) (hra : RdC w aa (I64 al)) :
    Calls Try.prog 44 #[.slice ad xs.length cp, .slice aa al.length ca] w fun e w' => e = .returned (.bool (flowOkB (outDeps us ok) al ok)) ∧ Below w.heap.size w w' := by
  have hmm := hm
  unfold maxLen at hm hma
  have HR := Lib.hid hr
  have HRA := Lib.hid hra
  have h120 := unr_len hv
  have HV := Lib.hid hv
  clear hr hv hra
  cases ok
  · go_enter Try.func44, Try.ntmps44
    go_wp2_with (go_at_call 48; refine (sOutputDeps_any xs us _ HV.out _ _ _ hmm hcp hcm HR.out).mono ?_; rintro e w1 ⟨a, c, rfl, ho, hb1⟩)
    go_ret
    exact ⟨ret_bool (by simp [flowOkB]), (by (repeat (first | with_reducible exact Below.refl _ _ | (with_reducible refine bel_next ?_ ?_ (by assumption)) | (with_reducible refine Below.alloc ?_ ?_ _) | (with_reducible refine Below.drew ?_) | (with_reducible refine below_drewN ?_ _) | (with_reducible refine Below.setCell ?_ ?_ _))) <;> (first | omega | (simp; done) | (simp; omega)))⟩
  have hd120 : (outDeps us true).length ≤ 120 := by
    have := (flowF_len us us.length).2
    rw [List.take_length] at this
    simp [outDeps]; omega
  obtain ⟨d, hd⟩ : ∃ d, d = outDeps us true := ⟨_, rfl⟩
  rw [← hd] at hd120
  rw [← hd]
  have HD := Lib.hid hd
  clear hd
  by_cases hln : d.length = al.length
  case neg =>
    have hq : ((d.length : Int) != (al.length : Int)) = true := by simp; omega
    go_enter Try.func44, Try.ntmps44
    go_wp2_with (go_at_call 48; refine (sOutputDeps_any xs us _ HV.out _ _ _ hmm hcp hcm HR.out).mono ?_; rintro e w1 ⟨a, c, rfl, ho, hb1⟩; rw [← HD.out] at ho; rw [← HD.out]; have z1 := hb1.size; have HRU := Lib.hid ho.rd; clear ho)
    go_ret
    exact ⟨ret_bool (by simp [flowOkB]; intros; omega), (by (repeat (first | with_reducible exact Below.refl _ _ | (with_reducible refine bel_next ?_ ?_ (by assumption)) | (with_reducible refine Below.alloc ?_ ?_ _) | (with_reducible refine Below.drew ?_) | (with_reducible refine below_drewN ?_ _) | (with_reducible refine Below.setCell ?_ ?_ _))) <;> (first | omega | (simp; done) | (simp; omega)))⟩
  have hq : ((d.length : Int) != (al.length : Int)) = false := by simp; omega
  have HLN := Lib.hid hln
  have hl1 : d.length ≤ al.length := by omega
  clear hln
  go_enter Try.func44, Try.ntmps44
  go_wp2_with (go_at_call 48; refine (sOutputDeps_any xs us _ HV.out _ _ _ hmm hcp hcm HR.out).mono ?_; rintro e w1 ⟨a, c, rfl, ho, hb1⟩; rw [← HD.out] at ho; rw [← HD.out]; have z1 := hb1.size; have HRU := Lib.hid ho.rd; clear ho)
  go_loopw [7] (fun i wr => ∃ k : Nat, k ≤ d.length ∧ i = .int .i64 k ∧ flowAll ((d.zip al).take k) = true ∧ Below w1.heap.size w1 wr) (fun i _ => d.length - (intOf i).toNat)
  case atStart => exact ⟨0, Nat.zero_le _, rfl, rfl, Below.refl _ _⟩
  case round =>
    obtain ⟨k, hk, rfl, hall, hbw⟩ := hrel
    have zw := hbw.size
    by_cases hlt : k < d.length
    · obtain ⟨b1, o1, rfl, hc1⟩ := (HRU.out.below hbw).at k hlt
      obtain ⟨b2, o2, rfl, hc2⟩ := (show RdC wr aa (I64 al) from HRA.out.below (by (repeat (first | with_reducible exact Below.refl _ _ | (with_reducible refine bel_next ?_ ?_ (by assumption)) | (with_reducible refine Below.alloc ?_ ?_ _) | (with_reducible refine Below.drew ?_) | (with_reducible refine below_drewN ?_ _) | (with_reducible refine Below.setCell ?_ ?_ _))) <;> (first | omega | (simp; done) | (simp; omega)))).at k (by omega)
      have q1 := hc1 k hlt
      have q2 := hc2 k (by omega)
      have hi1 : (k : Int) < (d.length : Int) := by omega
      have hi2 : (k : Int) < (al.length : Int) := by omega
      have SN := fun (h2 : allowB (d[k], al[k]'(by omega)) = true) => flowAll_snoc hlt (show k < al.length by omega) hall h2
      have BD := fun (h2 : allowB (d[k], al[k]'(by omega)) = false) => flowAll_bad hlt (show k < al.length by omega) h2
      obtain ⟨x, hx⟩ : ∃ x, x = d[k] := ⟨_, rfl⟩
      obtain ⟨y, hy⟩ : ∃ y, y = al[k]'(by omega) := ⟨_, rfl⟩
      rw [← hx] at q1
      rw [← hy] at q2
      rw [← hx, ← hy] at SN BD
      clear hx hy hc1 hc2 hall
      by_cases hy0 : y < 0
      · have HB := Lib.hid (BD (by simp [allowB, hy0]))
        have t1 : decide (y < 0) = true := by simp [hy0]
        clear SN BD
        go_wp2_with fail
        go_quiet (fail)
        go_wp2_with fail
        go_ret
        exact ⟨ret_bool (by simp [flowOkB, HB.out]), (by (repeat (first | with_reducible exact Below.refl _ _ | (with_reducible refine bel_next ?_ ?_ (by assumption)) | (with_reducible refine Below.alloc ?_ ?_ _) | (with_reducible refine Below.drew ?_) | (with_reducible refine below_drewN ?_ _) | (with_reducible refine Below.setCell ?_ ?_ _))) <;> (first | omega | (simp; done) | (simp; omega)))⟩
      · have t1 : decide (y < 0) = false := by simp; omega
        by_cases hb0 : bits .andNot .i64 x y = 0
        · have HS := Lib.hid (SN (by simp [allowB, hb0]; omega))
          have t2 : (bits .andNot .i64 x y != 0) = false := by simp [hb0]
          clear SN BD hb0
          go_wp2_with fail
          go_quiet (fail)
          go_wp2_with fail
          go_roundw
          case rel => exact ⟨k + 1, by omega, by go_num, HS.out, (by (repeat (first | with_reducible exact Below.refl _ _ | (with_reducible refine bel_next ?_ ?_ (by assumption)) | (with_reducible refine Below.alloc ?_ ?_ _) | (with_reducible refine Below.drew ?_) | (with_reducible refine below_drewN ?_ _) | (with_reducible refine Below.setCell ?_ ?_ _))) <;> (first | omega | (simp; done) | (simp; omega)))⟩
          case measure => simp [intOf]; omega
        · have HB := Lib.hid (BD (by simp [allowB, hb0]))
          have t2 : (bits .andNot .i64 x y != 0) = true := by simp [hb0]
          clear SN BD hb0
          go_wp2_with fail
          go_quiet (fail)
          go_wp2_with fail
          go_ret
          exact ⟨ret_bool (by simp [flowOkB, HB.out]), (by (repeat (first | with_reducible exact Below.refl _ _ | (with_reducible refine bel_next ?_ ?_ (by assumption)) | (with_reducible refine Below.alloc ?_ ?_ _) | (with_reducible refine Below.drew ?_) | (with_reducible refine below_drewN ?_ _) | (with_reducible refine Below.setCell ?_ ?_ _))) <;> (first | omega | (simp; done) | (simp; omega)))⟩
    · have HK : Hid (flowAll (d.zip al) = true) := by show _ = _; rw [List.take_of_length_le (by have := HLN.out; simp; omega)] at hall; exact hall
      clear hall
      go_wp2_with fail
      go_ret
      exact ⟨ret_bool (by simp [flowOkB, HK.out]; have := HLN.out; omega), (by (repeat (first | with_reducible exact Below.refl _ _ | (with_reducible refine bel_next ?_ ?_ (by assumption)) | (with_reducible refine Below.alloc ?_ ?_ _) | (with_reducible refine Below.drew ?_) | (with_reducible refine below_drewN ?_ _) | (with_reducible refine Below.setCell ?_ ?_ _))) <;> (first | omega | (simp; done) | (simp; omega)))⟩

set_option maxRecDepth 20000 in
set_option maxHeartbeats 4000000 in
theorem iFlowOk_any (xs us : List St) (ok : Bool) (hv : IsUnr xs us ok) (ad : Option Addr) (cp : Nat) (al : List Int) (aa : Option Addr) (ca : Nat) (w : World) (hm : xs.length ≤ maxLen) (hcp : xs.length ≤ cp) (hcm : cp ≤ maxLen) (hr : RdC w ad (stCells xs)) (hma : al.length ≤ maxLen) (hra : RdC w aa (I64 al)) :
    Calls Try.prog 46 #[.slice ad xs.length cp, .slice aa al.length ca] w fun e w' => e = .returned (.bool (flowOkB (outDeps us ok) al ok)) ∧ Below w.heap.size w w' := by
  have hmm := hm
  unfold maxLen at hm hma
  have HR := Lib.hid hr
  have HRA := Lib.hid hra
  have h120 := unr_len hv
  have HV := Lib.hid hv
  clear hr hv hra
  cases ok
  · go_enter Try.func46, Try.ntmps46
    go_wp2_with (go_at_call 49; refine (iOutputDeps_any xs us _ HV.out _ _ _ hmm hcp hcm HR.out).mono ?_; rintro e w1 ⟨a, c, rfl, ho, hb1⟩)
    go_ret
    exact ⟨ret_bool (by simp [flowOkB]), (by (repeat (first | with_reducible exact Below.refl _ _ | (with_reducible refine bel_next ?_ ?_ (by assumption)) | (with_reducible refine Below.alloc ?_ ?_ _) | (with_reducible refine Below.drew ?_) | (with_reducible refine below_drewN ?_ _) | (with_reducible refine Below.setCell ?_ ?_ _))) <;> (first | omega | (simp; done) | (simp; omega)))⟩
  have hd120 : (outDeps us true).length ≤ 120 := by
    have := (flowF_len us us.length).2
    rw [List.take_length] at this
    simp [outDeps]; omega
  obtain ⟨d, hd⟩ : ∃ d, d = outDeps us true := ⟨_, rfl⟩
  rw [← hd] at hd120
  rw [← hd]
  have HD := Lib.hid hd
  clear hd
  by_cases hln : d.length = al.length
  case neg =>
    have hq : ((d.length : Int) != (al.length : Int)) = true := by simp; omega
    go_enter Try.func46, Try.ntmps46
    go_wp2_with (go_at_call 49; refine (iOutputDeps_any xs us _ HV.out _ _ _ hmm hcp hcm HR.out).mono ?_; rintro e w1 ⟨a, c, rfl, ho, hb1⟩; rw [← HD.out] at ho; rw [← HD.out]; have z1 := hb1.size; have HRU := Lib.hid ho.rd; clear ho)
    go_ret
    exact ⟨ret_bool (by simp [flowOkB]; intros; omega), (by (repeat (first | with_reducible exact Below.refl _ _ | (with_reducible refine bel_next ?_ ?_ (by assumption)) | (with_reducible refine Below.alloc ?_ ?_ _) | (with_reducible refine Below.drew ?_) | (with_reducible refine below_drewN ?_ _) | (with_reducible refine Below.setCell ?_ ?_ _))) <;> (first | omega | (simp; done) | (simp; omega)))⟩
  have hq : ((d.length : Int) != (al.length : Int)) = false := by simp; omega
  have HLN := Lib.hid hln
  have hl1 : d.length ≤ al.length := by omega
  clear hln
  go_enter Try.func46, Try.ntmps46
  go_wp2_with (go_at_call 49; refine (iOutputDeps_any xs us _ HV.out _ _ _ hmm hcp hcm HR.out).mono ?_; rintro e w1 ⟨a, c, rfl, ho, hb1⟩; rw [← HD.out] at ho; rw [← HD.out]; have z1 := hb1.size; have HRU := Lib.hid ho.rd; clear ho)
  go_loopw [25] (fun i wr => ∃ k : Nat, k ≤ d.length ∧ i = .int .i64 k ∧ flowAll ((d.zip al).take k) = true ∧ Below w1.heap.size w1 wr) (fun i _ => d.length - (intOf i).toNat)
  case atStart => exact ⟨0, Nat.zero_le _, rfl, rfl, Below.refl _ _⟩
  case round =>
    obtain ⟨k, hk, rfl, hall, hbw⟩ := hrel
    have zw := hbw.size
    by_cases hlt : k < d.length
    · obtain ⟨b1, o1, rfl, hc1⟩ := (HRU.out.below hbw).at k hlt
      obtain ⟨b2, o2, rfl, hc2⟩ := (show RdC wr aa (I64 al) from HRA.out.below (by (repeat (first | with_reducible exact Below.refl _ _ | (with_reducible refine bel_next ?_ ?_ (by assumption)) | (with_reducible refine Below.alloc ?_ ?_ _) | (with_reducible refine Below.drew ?_) | (with_reducible refine below_drewN ?_ _) | (with_reducible refine Below.setCell ?_ ?_ _))) <;> (first | omega | (simp; done) | (simp; omega)))).at k (by omega)
      have q1 := hc1 k hlt
      have q2 := hc2 k (by omega)
      have hi1 : (k : Int) < (d.length : Int) := by omega
      have hi2 : (k : Int) < (al.length : Int) := by omega
      have SN := fun (h2 : allowB (d[k], al[k]'(by omega)) = true) => flowAll_snoc hlt (show k < al.length by omega) hall h2
      have BD := fun (h2 : allowB (d[k], al[k]'(by omega)) = false) => flowAll_bad hlt (show k < al.length by omega) h2
      obtain ⟨x, hx⟩ : ∃ x, x = d[k] := ⟨_, rfl⟩
      obtain ⟨y, hy⟩ : ∃ y, y = al[k]'(by omega) := ⟨_, rfl⟩
      rw [← hx] at q1
      rw [← hy] at q2
      rw [← hx, ← hy] at SN BD
      clear hx hy hc1 hc2 hall
      by_cases hy0 : y < 0
      · have HB := Lib.hid (BD (by simp [allowB, hy0]))
        have t1 : decide (y < 0) = true := by simp [hy0]
        clear SN BD
        go_wp2_with fail
        go_ret
        exact ⟨ret_bool (by simp [flowOkB, HB.out]), (by (repeat (first | with_reducible exact Below.refl _ _ | (with_reducible refine bel_next ?_ ?_ (by assumption)) | (with_reducible refine Below.alloc ?_ ?_ _) | (with_reducible refine Below.drew ?_) | (with_reducible refine below_drewN ?_ _) | (with_reducible refine Below.setCell ?_ ?_ _))) <;> (first | omega | (simp; done) | (simp; omega)))⟩
      · have t1 : decide (y < 0) = false := by simp; omega
        by_cases hb0 : bits .andNot .i64 x y = 0
        · have HS := Lib.hid (SN (by simp [allowB, hb0]; omega))
          have t2 : (bits .andNot .i64 x y != 0) = false := by simp [hb0]
          clear SN BD hb0
          go_wp2_with fail
          go_roundw
          case rel => exact ⟨k + 1, by omega, by go_num, HS.out, (by (repeat (first | with_reducible exact Below.refl _ _ | (with_reducible refine bel_next ?_ ?_ (by assumption)) | (with_reducible refine Below.alloc ?_ ?_ _) | (with_reducible refine Below.drew ?_) | (with_reducible refine below_drewN ?_ _) | (with_reducible refine Below.setCell ?_ ?_ _))) <;> (first | omega | (simp; done) | (simp; omega)))⟩
          case measure => simp [intOf]; omega
        · have HB := Lib.hid (BD (by simp [allowB, hb0]))
          have t2 : (bits .andNot .i64 x y != 0) = true := by simp [hb0]
          clear SN BD hb0
          go_wp2_with fail
          go_ret
          exact ⟨ret_bool (by simp [flowOkB, HB.out]), (by (repeat (first | with_reducible exact Below.refl _ _ | (with_reducible refine bel_next ?_ ?_ (by assumption)) | (with_reducible refine Below.alloc ?_ ?_ _) | (with_reducible refine Below.drew ?_) | (with_reducible refine below_drewN ?_ _) | (with_reducible refine Below.setCell ?_ ?_ _))) <;> (first | omega | (simp; done) | (simp; omega)))⟩
    · have HK : Hid (flowAll (d.zip al) = true) := by show _ = _; rw [List.take_of_length_le (by have := HLN.out; simp; omega)] at hall; exact hall
      clear hall
      go_wp2_with fail
      go_ret
      exact ⟨ret_bool (by simp [flowOkB, HK.out]; have := HLN.out; omega), (by (repeat (first | with_reducible exact Below.refl _ _ | (with_reducible refine bel_next ?_ ?_ (by assumption)) | (with_reducible refine Below.alloc ?_ ?_ _) | (with_reducible refine Below.drew ?_) | (with_reducible refine below_drewN ?_ _) | (with_reducible refine Below.setCell ?_ ?_ _))) <;> (first | omega | (simp; done) | (simp; omega)))⟩

end Go.Proofs.Ytfeffofoofmgcaa

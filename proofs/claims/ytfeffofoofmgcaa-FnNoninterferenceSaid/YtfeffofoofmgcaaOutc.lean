/- OutputCount, both. -/
import Derived.Test.YtfeffofoofmgcaaUnroll
namespace Go.Proofs.Ytfeffofoofmgcaa
open Go.RowKit
set_option linter.unusedVariables false
set_option linter.unusedSimpArgs false

def cntOut (us : List St) : Nat := (us.filter fun s => s.op == 11).length
theorem cntOut_snoc {us : List St} {k : Nat} {s : St} (h : us[k]? = some s) : cntOut (us.take (k + 1)) = cntOut (us.take k) + if s.op = 11 then 1 else 0 := by
  rw [take_snoc h]
  simp only [cntOut, List.filter_append, List.length_append, List.filter_cons, List.filter_nil]
  by_cases h1 : s.op = 11 <;> simp [h1]
theorem cntOut_le (us : List St) : cntOut us ≤ us.length := List.length_filter_le _ _
def outCount (us : List St) (ok : Bool) : Int := if ok then cntOut us else -1

set_option maxHeartbeats 2000000 in
theorem iOutputCount_any (xs us : List St) (ok : Bool) (hv : IsUnr xs us ok) (ad : Option Addr) (cp : Nat) (w : World) (hm : xs.length ≤ maxLen) (hcp : xs.length ≤ cp) (hcm : cp ≤ maxLen) (hr : RdC w ad (stCells xs)) :
    Calls Try.prog 39 #[.slice ad xs.length cp] w fun e w' => e = .returned (.int .i64 (outCount us ok)) ∧ Below w.heap.size w w' := by
  have hmm := hm
  unfold maxLen at hm
  have HR := Lib.hid hr
  have h120 := unr_len hv
  have HV := Lib.hid hv
  clear hr hv
  cases ok
  · go_enter Try.func39, Try.ntmps39
    go_wp2_with (go_at_call 41; refine (iUnroll_any xs us _ HV.out _ _ _ hmm hcp hcm HR.out).mono ?_; rintro e w1 ⟨a, c, rfl, ho, hb⟩)
    go_ret
    exact ⟨rfl, hb⟩
  · go_enter Try.func39, Try.ntmps39
    go_wp2_with (go_at_call 41; refine (iUnroll_any xs us _ HV.out _ _ _ hmm hcp hcm HR.out).mono ?_; rintro e w1 ⟨a, c, rfl, ho, hb⟩)
    have hz := hb.size
    have HRU := Lib.hid ho.rd
    clear ho
    go_loopw [5, 17] (fun m i wr => ∃ k : Nat, k ≤ us.length ∧ i = .int .i64 k ∧ m = .int .i64 (cntOut (us.take k) : Int) ∧ Below w1.heap.size w1 wr) (fun _ i _ => us.length - (intOf i).toNat)
    case atStart => exact ⟨0, Nat.zero_le _, rfl, rfl, Below.refl _ _⟩
    case round =>
      obtain ⟨k, hk, rfl, rfl, hbw⟩ := hrel
      have hbs := hbw.size
      have hcl := cntOut_le (us.take k)
      have hcl2 : (us.take k).length ≤ k := List.length_take_le _ _
      by_cases hlt : k < us.length
      · obtain ⟨b, off, op, dst, sa, sb, sc, sn, rfl, hbl, hx, c0, c1, c2, c3, c4, c5⟩ := (HRU.out.below hbw).st k hlt
        have hsn := cntOut_snoc hx
        obtain ⟨q, hq⟩ : ∃ q, q = cntOut (us.take k) := ⟨_, rfl⟩
        rw [← hq] at hsn hcl
        rw [← hq]
        have HQ := Lib.hid hq
        clear hq
        by_cases p : op = 11
        · subst p
          have HS : Hid (cntOut (us.take (k + 1)) = q + 1) := by show _ = _; rw [hsn]; simp
          clear hsn hx
          go_wp2_with fail
          go_roundw
          case rel => exact ⟨k + 1, by omega, by go_num, by rw [HS.out]; go_num, (by (repeat (first | with_reducible exact Below.refl _ _ | (with_reducible refine bel_next ?_ ?_ (by assumption)) | (with_reducible refine Below.alloc ?_ ?_ _) | (with_reducible refine Below.drew ?_) | (with_reducible refine below_drewN ?_ _) | (with_reducible refine Below.setCell ?_ ?_ _))) <;> (first | omega | (simp; done) | (simp; omega)))⟩
          case measure => simp [intOf]; omega
        · have HS : Hid (cntOut (us.take (k + 1)) = q) := by show _ = _; rw [hsn]; simp [p]
          have q11 : (op == 11) = false := by simp; omega
          clear hsn hx p
          go_wp2_with fail
          go_roundw
          case rel => exact ⟨k + 1, by omega, by go_num, by rw [HS.out], (by (repeat (first | with_reducible exact Below.refl _ _ | (with_reducible refine bel_next ?_ ?_ (by assumption)) | (with_reducible refine Below.alloc ?_ ?_ _) | (with_reducible refine Below.drew ?_) | (with_reducible refine below_drewN ?_ _) | (with_reducible refine Below.setCell ?_ ?_ _))) <;> (first | omega | (simp; done) | (simp; omega)))⟩
          case measure => simp [intOf]; omega
      · have HK : Hid ((cntOut (us.take k) : Int) = outCount us true) := by show _ = _; rw [List.take_of_length_le (by omega)]; rfl
        go_wp2_with fail
        go_ret
        exact ⟨ret_int (by rw [HK.out]), (by (repeat (first | with_reducible exact Below.refl _ _ | (with_reducible refine bel_next ?_ ?_ (by assumption)) | (with_reducible refine Below.alloc ?_ ?_ _) | (with_reducible refine Below.drew ?_) | (with_reducible refine below_drewN ?_ _) | (with_reducible refine Below.setCell ?_ ?_ _))) <;> (first | omega | (simp; done) | (simp; omega)))⟩

set_option maxHeartbeats 2000000 in
theorem sOutputCount_any (xs us : List St) (ok : Bool) (hv : IsUnr xs us ok) (ad : Option Addr) (cp : Nat) (w : World) (hm : xs.length ≤ maxLen) (hcp : xs.length ≤ cp) (hcm : cp ≤ maxLen) (hr : RdC w ad (stCells xs)) :
    Calls Try.prog 38 #[.slice ad xs.length cp] w fun e w' => e = .returned (.int .i64 (outCount us ok)) ∧ Below w.heap.size w w' := by
  have hmm := hm
  unfold maxLen at hm
  have HR := Lib.hid hr
  have h120 := unr_len hv
  have HV := Lib.hid hv
  clear hr hv
  cases ok
  · go_enter Try.func38, Try.ntmps38
    go_wp2_with (go_at_call 40; refine (sUnroll_any xs us _ HV.out _ _ _ hmm hcp hcm HR.out).mono ?_; rintro e w1 ⟨a, c, rfl, ho, hb⟩)
    go_ret
    exact ⟨rfl, hb⟩
  · go_enter Try.func38, Try.ntmps38
    go_wp2_with (go_at_call 40; refine (sUnroll_any xs us _ HV.out _ _ _ hmm hcp hcm HR.out).mono ?_; rintro e w1 ⟨a, c, rfl, ho, hb⟩)
    have hz := hb.size
    have HRU := Lib.hid ho.rd
    clear ho
    go_loopw [5, 6] (fun m i wr => ∃ k : Nat, k ≤ us.length ∧ i = .int .i64 k ∧ m = .int .i64 (cntOut (us.take k) : Int) ∧ Below w1.heap.size w1 wr) (fun _ i _ => us.length - (intOf i).toNat)
    case atStart => exact ⟨0, Nat.zero_le _, rfl, rfl, Below.refl _ _⟩
    case round =>
      obtain ⟨k, hk, rfl, rfl, hbw⟩ := hrel
      have hbs := hbw.size
      have hcl := cntOut_le (us.take k)
      have hcl2 : (us.take k).length ≤ k := List.length_take_le _ _
      by_cases hlt : k < us.length
      · obtain ⟨b, off, op, dst, sa, sb, sc, sn, rfl, hbl, hx, c0, c1, c2, c3, c4, c5⟩ := (HRU.out.below hbw).st k hlt
        have hsn := cntOut_snoc hx
        obtain ⟨q, hq⟩ : ∃ q, q = cntOut (us.take k) := ⟨_, rfl⟩
        rw [← hq] at hsn hcl
        rw [← hq]
        have HQ := Lib.hid hq
        clear hq
        by_cases p : op = 11
        · subst p
          have HS : Hid (cntOut (us.take (k + 1)) = q + 1) := by show _ = _; rw [hsn]; simp
          clear hsn hx
          go_wp2_with fail
          go_roundw
          case rel => exact ⟨k + 1, by omega, by go_num, by rw [HS.out]; go_num, (by (repeat (first | with_reducible exact Below.refl _ _ | (with_reducible refine bel_next ?_ ?_ (by assumption)) | (with_reducible refine Below.alloc ?_ ?_ _) | (with_reducible refine Below.drew ?_) | (with_reducible refine below_drewN ?_ _) | (with_reducible refine Below.setCell ?_ ?_ _))) <;> (first | omega | (simp; done) | (simp; omega)))⟩
          case measure => simp [intOf]; omega
        · have HS : Hid (cntOut (us.take (k + 1)) = q) := by show _ = _; rw [hsn]; simp [p]
          have q11 : (op == 11) = false := by simp; omega
          clear hsn hx p
          go_wp2_with fail
          go_roundw
          case rel => exact ⟨k + 1, by omega, by go_num, by rw [HS.out], (by (repeat (first | with_reducible exact Below.refl _ _ | (with_reducible refine bel_next ?_ ?_ (by assumption)) | (with_reducible refine Below.alloc ?_ ?_ _) | (with_reducible refine Below.drew ?_) | (with_reducible refine below_drewN ?_ _) | (with_reducible refine Below.setCell ?_ ?_ _))) <;> (first | omega | (simp; done) | (simp; omega)))⟩
          case measure => simp [intOf]; omega
      · have HK : Hid ((cntOut (us.take k) : Int) = outCount us true) := by show _ = _; rw [List.take_of_length_le (by omega)]; rfl
        go_wp2_with fail
        go_ret
        exact ⟨ret_int (by rw [HK.out]), (by (repeat (first | with_reducible exact Below.refl _ _ | (with_reducible refine bel_next ?_ ?_ (by assumption)) | (with_reducible refine Below.alloc ?_ ?_ _) | (with_reducible refine Below.drew ?_) | (with_reducible refine below_drewN ?_ _) | (with_reducible refine Below.setCell ?_ ?_ _))) <;> (first | omega | (simp; done) | (simp; omega)))⟩

end Go.Proofs.Ytfeffofoofmgcaa

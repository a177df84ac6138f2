/- CircuitOk, both. -/
import Derived.Test.YtfcijloiebnloaaGts
import Derived.Deep.QuietTactic
import Derived.BigQuiet
namespace Go.Proofs.Ytfcijloiebnloaa
open Go.RowKit
set_option linter.unusedVariables false
set_option linter.unusedSimpArgs false

theorem circOk_gate {gs : List Gt} {os : List Int} {k : Nat} {g : Gt} (h : gs[k]? = some g) (h2 : gateOk g.kd g.ga g.gb k = false) : circOk gs os = false := by simp [circOk, gtsOk_bad h h2]
theorem circOk_out {gs : List Gt} {os : List Int} {k : Nat} (hk : k < os.length) (h2 : inB os[k] 0 ((gs.length : Int) - 1) = false) : circOk gs os = false := by simp [circOk, allB_fail hk h2]
theorem circOk_long {gs : List Gt} {os : List Int} (h : ¬ gs.length ≤ 6000) : circOk gs os = false := by simp [circOk]; omega
theorem circOk_yes {gs : List Gt} {os : List Int} (h1 : gtsOk 0 gs = true) (h2 : allB os 0 ((gs.length : Int) - 1) = true) : circOk gs os = decide (gs.length ≤ 6000) := by simp [circOk, h1, h2]

set_option maxHeartbeats 2000000 in
theorem sCircuitOk_any (gs : List Gt) (os : List Int) (a1 a2 : Option Addr) (c1 c2 : Nat) (w : World) (hm : gs.length ≤ 1048576) (hm2 : os.length ≤ 1048576) (hr : RdC w a1 (gtCells gs)) (hr2 : RdC w a2 (I64 os)) :
    Calls Try.prog 52 #[.agg #[.slice a1 gs.length c1, .slice a2 os.length c2]] w fun e w' => e = .returned (.bool (circOk gs os)) ∧ Below w.heap.size w w' := by
  have HR := Lib.hid hr
  have HR2 := Lib.hid hr2
  clear hr hr2
  go_enter Try.func52, Try.ntmps52
  go_wp2_with fail
  go_loopw [3] (fun i wr => ∃ k : Nat, k ≤ gs.length ∧ i = .int .i64 k ∧ gtsOk 0 (gs.take k) = true ∧ Below (w.heap.size + 1) (w.alloc (.cells #[.slice a1 gs.length c1, .slice a2 os.length c2] 29)) wr) (fun i _ => gs.length - (intOf i).toNat)
  case atStart => exact ⟨0, Nat.zero_le _, rfl, rfl, Below.refl _ _⟩
  case round =>
    obtain ⟨k, hk, rfl, hok, hb0⟩ := hrel
    have hbw : Below w.heap.size w wr := ((Below.refl _ _).alloc (Nat.le_refl _) _).trans (hb0.mono (by omega))
    have hbs := hb0.size
    simp at hbs
    have k0 : wr.cell? ⟨w.heap.size, 0, none⟩ = some (.slice a1 gs.length c1) := (hb0.cell (p := ⟨w.heap.size, 0, none⟩) (by simp)).trans (by go_simp)
    have k1 : wr.cell? ⟨w.heap.size, 1, none⟩ = some (.slice a2 os.length c2) := (hb0.cell (p := ⟨w.heap.size, 1, none⟩) (by simp)).trans (by go_simp)
    have HO := Lib.hid hok
    clear hok
    by_cases hlt : k < gs.length
    · obtain ⟨b, off, gk, ga, gb, rfl, hbl, hx, c0, c1', c2'⟩ := (HR.out.below hbw).gt k hlt
      cases hs : gateOk gk ga gb k
      · have HS := Lib.hid hs
        have HF := Lib.hid (circOk_gate (os := os) hx hs)
        clear hs hx
        go_wp2_with (go_at_call 93; refine (sGateOk_any _ _ _ _ _).mono ?_; rintro e w1 ⟨rfl, hb⟩; rw [HS.out]; have z1 := hb.size; (try simp at z1))
        go_ret
        exact ⟨ret_bool HF.out.symm, (by (repeat (first | with_reducible exact Below.refl _ _ | (with_reducible refine bel_next ?_ ?_ (by assumption)) | (with_reducible refine Below.alloc ?_ ?_ _) | (with_reducible refine Below.drew ?_) | (with_reducible refine below_drewN ?_ _) | (with_reducible refine Below.setCell ?_ ?_ _))) <;> (first | omega | (simp; done) | (simp; omega)))⟩
      · have HS := Lib.hid hs
        have HN := Lib.hid (gtsOk_snoc hx HO.out hs)
        clear hs hx
        go_wp2_with (go_at_call 93; refine (sGateOk_any _ _ _ _ _).mono ?_; rintro e w1 ⟨rfl, hb⟩; rw [HS.out]; have z1 := hb.size; (try simp at z1))
        go_roundw
        case rel => exact ⟨k + 1, by omega, by go_num, HN.out, (by (repeat (first | with_reducible exact Below.refl _ _ | (with_reducible refine bel_next ?_ ?_ (by assumption)) | (with_reducible refine Below.alloc ?_ ?_ _) | (with_reducible refine Below.drew ?_) | (with_reducible refine below_drewN ?_ _) | (with_reducible refine Below.setCell ?_ ?_ _))) <;> (first | omega | (simp; done) | (simp; omega)))⟩
        case measure => simp [intOf]; omega
    · have HK : Hid (gtsOk 0 gs = true) := by
        show _ = _
        have := HO.out
        rwa [List.take_of_length_le (by omega)] at this
      clear HO
      go_wp2_with fail
      go_loopw [4] (fun i w2 => ∃ k2 : Nat, k2 ≤ os.length ∧ i = .int .i64 k2 ∧ allB (os.take k2) 0 ((gs.length : Int) - 1) = true ∧ Below wr.heap.size wr w2) (fun i _ => os.length - (intOf i).toNat)
      case atStart => exact ⟨0, Nat.zero_le _, rfl, rfl, Below.refl _ _⟩
      case round =>
        rename_i wr2
        obtain ⟨k2, hk2, rfl, hall, hb2⟩ := hrel
        have hbs2 := hb2.size
        have q0 := bel_keeps hb2 k0
        have q1 := bel_keeps hb2 k1
        clear k0 k1
        have HA := Lib.hid hall
        clear hall
        by_cases hlt2 : k2 < os.length
        · obtain ⟨b, off, rfl, hcell⟩ := (HR2.out.below (hbw.trans (hb2.mono (by have := hbw.size; omega)))).at k2 hlt2
          have hc := hcell k2 hlt2
          have hi2 : (k2 : Int) < (os.length : Int) := by omega
          obtain ⟨y, hy⟩ : ∃ y, y = os[k2] := ⟨_, rfl⟩
          rw [← hy] at hc
          have HY := Lib.hid hy
          clear hcell hy
          cases hb : inB y 0 ((gs.length : Int) - 1)
          · have HF := Lib.hid (circOk_out (gs := gs) hlt2 (by rw [← HY.out]; exact hb))
            go_wp2_with fail
            go_quiet ((go_at_call 53; exact Calls.quiet_of_same ((l01In_any _ _ _ _).mono fun _ _ h => ⟨h.1, h.2.symm⟩)))
            go_wp2_with fail
            go_ret
            exact ⟨ret_bool HF.out.symm, (by (repeat (first | with_reducible exact Below.refl _ _ | (with_reducible refine bel_next ?_ ?_ (by assumption)) | (with_reducible refine Below.alloc ?_ ?_ _) | (with_reducible refine Below.drew ?_) | (with_reducible refine below_drewN ?_ _) | (with_reducible refine Below.setCell ?_ ?_ _))) <;> (first | omega | (simp; done) | (simp; omega)))⟩
          · have HF := Lib.hid (allB_snoc hlt2 HA.out (by rw [← HY.out]; exact hb))
            go_wp2_with fail
            go_quiet ((go_at_call 53; exact Calls.quiet_of_same ((l01In_any _ _ _ _).mono fun _ _ h => ⟨h.1, h.2.symm⟩)))
            go_wp2_with fail
            go_roundw
            case rel => exact ⟨k2 + 1, by omega, by go_num, HF.out, (by (repeat (first | with_reducible exact Below.refl _ _ | (with_reducible refine bel_next ?_ ?_ (by assumption)) | (with_reducible refine Below.alloc ?_ ?_ _) | (with_reducible refine Below.drew ?_) | (with_reducible refine below_drewN ?_ _) | (with_reducible refine Below.setCell ?_ ?_ _))) <;> (first | omega | (simp; done) | (simp; omega)))⟩
            case measure => simp [intOf]; omega
        · have HF := Lib.hid (circOk_yes HK.out (allB_full (by omega) HA.out))
          go_wp2_with fail
          go_ret
          exact ⟨ret_bool (by rw [HF.out]; simp [*] <;> omega), (by (repeat (first | with_reducible exact Below.refl _ _ | (with_reducible refine bel_next ?_ ?_ (by assumption)) | (with_reducible refine Below.alloc ?_ ?_ _) | (with_reducible refine Below.drew ?_) | (with_reducible refine below_drewN ?_ _) | (with_reducible refine Below.setCell ?_ ?_ _))) <;> (first | omega | (simp; done) | (simp; omega)))⟩

set_option maxHeartbeats 2000000 in
theorem iCircuitOk_any (gs : List Gt) (os : List Int) (a1 a2 : Option Addr) (c1 c2 : Nat) (w : World) (hm : gs.length ≤ 1048576) (hm2 : os.length ≤ 1048576) (hr : RdC w a1 (gtCells gs)) (hr2 : RdC w a2 (I64 os)) :
    Calls Try.prog 47 #[.agg #[.slice a1 gs.length c1, .slice a2 os.length c2]] w fun e w' => e = .returned (.bool (circOk gs os)) ∧ Below w.heap.size w w' := by
  have HR := Lib.hid hr
  have HR2 := Lib.hid hr2
  clear hr hr2
  by_cases h6 : gs.length ≤ 6000
  case neg =>
    have HF := Lib.hid (circOk_long (os := os) h6)
    go_enter Try.func47, Try.ntmps47
    go_wp2_with fail
    go_ret
    exact ⟨ret_bool HF.out.symm, (by (repeat (first | with_reducible exact Below.refl _ _ | (with_reducible refine bel_next ?_ ?_ (by assumption)) | (with_reducible refine Below.alloc ?_ ?_ _) | (with_reducible refine Below.drew ?_) | (with_reducible refine below_drewN ?_ _) | (with_reducible refine Below.setCell ?_ ?_ _))) <;> (first | omega | (simp; done) | (simp; omega)))⟩
  go_enter Try.func47, Try.ntmps47
  go_wp2_with fail
  go_loopw [14] (fun i wr => ∃ k : Nat, k ≤ gs.length ∧ i = .int .i64 k ∧ gtsOk 0 (gs.take k) = true ∧ Below (w.heap.size + 1) (w.alloc (.cells #[.slice a1 gs.length c1, .slice a2 os.length c2] 29)) wr) (fun i _ => gs.length - (intOf i).toNat)
  case atStart => exact ⟨0, Nat.zero_le _, rfl, rfl, Below.refl _ _⟩
  case round =>
    obtain ⟨k, hk, rfl, hok, hb0⟩ := hrel
    have hbw : Below w.heap.size w wr := ((Below.refl _ _).alloc (Nat.le_refl _) _).trans (hb0.mono (by omega))
    have hbs := hb0.size
    simp at hbs
    have k0 : wr.cell? ⟨w.heap.size, 0, none⟩ = some (.slice a1 gs.length c1) := (hb0.cell (p := ⟨w.heap.size, 0, none⟩) (by simp)).trans (by go_simp)
    have k1 : wr.cell? ⟨w.heap.size, 1, none⟩ = some (.slice a2 os.length c2) := (hb0.cell (p := ⟨w.heap.size, 1, none⟩) (by simp)).trans (by go_simp)
    have HO := Lib.hid hok
    clear hok
    by_cases hlt : k < gs.length
    · obtain ⟨b, off, gk, ga, gb, rfl, hbl, hx, c0, c1', c2'⟩ := (HR.out.below hbw).gt k hlt
      cases hs : gateOk gk ga gb k
      · have HS := Lib.hid hs
        have HF := Lib.hid (circOk_gate (os := os) hx hs)
        clear hs hx
        go_wp2_with (go_at_call 92; refine (iGateOk_any _ _ _ _ _).mono ?_; rintro e w1 ⟨rfl, hb⟩; rw [HS.out]; have z1 := hb.size; (try simp at z1))
        go_ret
        exact ⟨ret_bool HF.out.symm, (by (repeat (first | with_reducible exact Below.refl _ _ | (with_reducible refine bel_next ?_ ?_ (by assumption)) | (with_reducible refine Below.alloc ?_ ?_ _) | (with_reducible refine Below.drew ?_) | (with_reducible refine below_drewN ?_ _) | (with_reducible refine Below.setCell ?_ ?_ _))) <;> (first | omega | (simp; done) | (simp; omega)))⟩
      · have HS := Lib.hid hs
        have HN := Lib.hid (gtsOk_snoc hx HO.out hs)
        clear hs hx
        go_wp2_with (go_at_call 92; refine (iGateOk_any _ _ _ _ _).mono ?_; rintro e w1 ⟨rfl, hb⟩; rw [HS.out]; have z1 := hb.size; (try simp at z1))
        go_roundw
        case rel => exact ⟨k + 1, by omega, by go_num, HN.out, (by (repeat (first | with_reducible exact Below.refl _ _ | (with_reducible refine bel_next ?_ ?_ (by assumption)) | (with_reducible refine Below.alloc ?_ ?_ _) | (with_reducible refine Below.drew ?_) | (with_reducible refine below_drewN ?_ _) | (with_reducible refine Below.setCell ?_ ?_ _))) <;> (first | omega | (simp; done) | (simp; omega)))⟩
        case measure => simp [intOf]; omega
    · have HK : Hid (gtsOk 0 gs = true) := by
        show _ = _
        have := HO.out
        rwa [List.take_of_length_le (by omega)] at this
      clear HO
      go_wp2_with fail
      go_loopw [27] (fun i w2 => ∃ k2 : Nat, k2 ≤ os.length ∧ i = .int .i64 k2 ∧ allB (os.take k2) 0 ((gs.length : Int) - 1) = true ∧ Below wr.heap.size wr w2) (fun i _ => os.length - (intOf i).toNat)
      case atStart => exact ⟨0, Nat.zero_le _, rfl, rfl, Below.refl _ _⟩
      case round =>
        rename_i wr2
        obtain ⟨k2, hk2, rfl, hall, hb2⟩ := hrel
        have hbs2 := hb2.size
        have q0 := bel_keeps hb2 k0
        have q1 := bel_keeps hb2 k1
        clear k0 k1
        have HA := Lib.hid hall
        clear hall
        by_cases hlt2 : k2 < os.length
        · obtain ⟨b, off, rfl, hcell⟩ := (HR2.out.below (hbw.trans (hb2.mono (by have := hbw.size; omega)))).at k2 hlt2
          have hc := hcell k2 hlt2
          have hi2 : (k2 : Int) < (os.length : Int) := by omega
          obtain ⟨y, hy⟩ : ∃ y, y = os[k2] := ⟨_, rfl⟩
          rw [← hy] at hc
          have HY := Lib.hid hy
          clear hcell hy
          cases hb : inB y 0 ((gs.length : Int) - 1)
          · have HF := Lib.hid (circOk_out (gs := gs) hlt2 (by rw [← HY.out]; exact hb))
            go_wp2_with (go_at_call 65; refine (within_any _ _ _ _).mono ?_; rintro e w' ⟨rfl, rfl⟩)
            go_ret
            exact ⟨ret_bool HF.out.symm, (by (repeat (first | with_reducible exact Below.refl _ _ | (with_reducible refine bel_next ?_ ?_ (by assumption)) | (with_reducible refine Below.alloc ?_ ?_ _) | (with_reducible refine Below.drew ?_) | (with_reducible refine below_drewN ?_ _) | (with_reducible refine Below.setCell ?_ ?_ _))) <;> (first | omega | (simp; done) | (simp; omega)))⟩
          · have HF := Lib.hid (allB_snoc hlt2 HA.out (by rw [← HY.out]; exact hb))
            go_wp2_with (go_at_call 65; refine (within_any _ _ _ _).mono ?_; rintro e w' ⟨rfl, rfl⟩)
            go_roundw
            case rel => exact ⟨k2 + 1, by omega, by go_num, HF.out, (by (repeat (first | with_reducible exact Below.refl _ _ | (with_reducible refine bel_next ?_ ?_ (by assumption)) | (with_reducible refine Below.alloc ?_ ?_ _) | (with_reducible refine Below.drew ?_) | (with_reducible refine below_drewN ?_ _) | (with_reducible refine Below.setCell ?_ ?_ _))) <;> (first | omega | (simp; done) | (simp; omega)))⟩
            case measure => simp [intOf]; omega
        · have HF := Lib.hid (circOk_yes HK.out (allB_full (by omega) HA.out))
          go_wp2_with fail
          go_ret
          exact ⟨ret_bool (by rw [HF.out]; simp [*] <;> omega), (by (repeat (first | with_reducible exact Below.refl _ _ | (with_reducible refine bel_next ?_ ?_ (by assumption)) | (with_reducible refine Below.alloc ?_ ?_ _) | (with_reducible refine Below.drew ?_) | (with_reducible refine below_drewN ?_ _) | (with_reducible refine Below.setCell ?_ ?_ _))) <;> (first | omega | (simp; done) | (simp; omega)))⟩

end Go.Proofs.Ytfcijloiebnloaa

/- ProgramOk, both. -/
import Derived.Test.YtigefmobejclaaaDoorStmtC
import Derived.Test.YtigefmobejclaaaDoorSStmtC
import Derived.Test.YtigefmobejclaaaDoorSts
namespace Go.Proofs.YtigefmobejclaaaDoor
open Go.RowKit

set_option maxHeartbeats 2000000 in
theorem iProgramOk_any (xs : List St) (ad : Option Addr) (cp : Nat) (w : World) (hm : xs.length ≤ maxLen) (hr : RdC w ad (stCells xs)) :
    Calls Tryd.prog 35 #[.slice ad xs.length cp] w fun e w' => e = .returned (.bool (progOk xs)) ∧ Below w.heap.size w w' := by
  unfold maxLen at hm
  by_cases h40 : xs.length ≤ 40
  case neg =>
    have HF : Hid (progOk xs = false) := by show _ = _; simp [progOk, h40]
    go_enter Tryd.func35, Tryd.ntmps35
    go_wp2_with fail
    go_ret
    exact ⟨ret_bool HF.out.symm, Below.refl _ _⟩
  go_enter Tryd.func35, Tryd.ntmps35
  go_wp2_with fail
  go_loopw [3, 11] (fun d i wr => ∃ (k : Nat) (dd : Int), k ≤ xs.length ∧ i = .int .i64 k ∧ d = .int .i64 dd ∧ depF 0 (xs.take k) = some dd ∧ Below w.heap.size w wr) (fun _ i _ => xs.length - (intOf i).toNat)
  case atStart => exact ⟨0, 0, Nat.zero_le _, rfl, rfl, rfl, Below.refl _ _⟩
  case round =>
    obtain ⟨k, dd, hk, rfl, rfl, hd, hbw⟩ := hrel
    obtain ⟨d0, d3⟩ := depF_lo hd (by omega)
    by_cases hlt : k < xs.length
    · obtain ⟨b, off, op, dst, sa, sb, sc, sn, rfl, hbl, hx, c0, c1, c2, c3, c4, c5⟩ := (hr.below hbw).st k hlt
      have hbs := hbw.size
      cases hs : stOk ⟨op, dst, sa, sb, sc, sn⟩
      · have HF := Lib.hid (depF_bad hx hd (.inl hs))
        have HS := Lib.hid hs
        clear hd hx hs hr
        go_wp2_with (go_at_call 31; refine (iStmtOk_any ⟨op, dst, sa, sb, sc, sn⟩ _).mono ?_; rintro e w1 ⟨rfl, hb⟩; rw [HS.out]; have k1_0 := bel_keeps hb (b := wr.heap.size) (o := 0) (v := .int .i64 op) (by go_simp); have z1 := hb.size; (try simp at z1))
        go_ret
        exact ⟨ret_bool HF.out.symm, (by (repeat (first | with_reducible exact Below.refl _ _ | (with_reducible refine bel_next ?_ ?_ (by assumption)) | (with_reducible refine Below.alloc ?_ ?_ _) | (with_reducible refine Below.drew ?_) | (with_reducible refine below_drewN ?_ _) | (with_reducible refine Below.setCell ?_ ?_ _))) <;> (first | omega | (simp; done) | (simp; omega)))⟩
      · have HS := Lib.hid hs
        have HX := Lib.hid hx
        have HD := Lib.hid hd
        clear hd hx hs hr
        by_cases p12 : op = 12
        case pos =>
          subst p12
          have HE : Hid (stepD dd ⟨12, dst, sa, sb, sc, sn⟩ = dd + 1) := by show _ = _; simp [stepD]
          cases hi : inB (dd + 1) 0 3
          · have HF := Lib.hid (depF_bad HX.out HD.out (.inr (by rw [HE.out]; exact hi)))
            have HI := Lib.hid hi
            clear hi
            go_wp2_with (first | (go_at_call 31; refine (iStmtOk_any ⟨12, dst, sa, sb, sc, sn⟩ _).mono ?_; rintro e w1 ⟨rfl, hb⟩; rw [HS.out]; have k1_0 := bel_keeps hb (b := wr.heap.size) (o := 0) (v := .int .i64 12) (by go_simp); have z1 := hb.size; (try simp at z1)) | (go_at_call 50; refine (within_any _ _ _ _).mono ?_; rintro e w' ⟨rfl, rfl⟩; rw [HI.out]))
            go_ret
            exact ⟨ret_bool HF.out.symm, (by (repeat (first | with_reducible exact Below.refl _ _ | (with_reducible refine bel_next ?_ ?_ (by assumption)) | (with_reducible refine Below.alloc ?_ ?_ _) | (with_reducible refine Below.drew ?_) | (with_reducible refine below_drewN ?_ _) | (with_reducible refine Below.setCell ?_ ?_ _))) <;> (first | omega | (simp; done) | (simp; omega)))⟩
          · have HF := Lib.hid (depF_snoc HX.out HD.out HS.out (by rw [HE.out]; exact hi))
            rw [HE.out] at HF
            have HI := Lib.hid hi
            clear hi
            go_wp2_with (first | (go_at_call 31; refine (iStmtOk_any ⟨12, dst, sa, sb, sc, sn⟩ _).mono ?_; rintro e w1 ⟨rfl, hb⟩; rw [HS.out]; have k1_0 := bel_keeps hb (b := wr.heap.size) (o := 0) (v := .int .i64 12) (by go_simp); have z1 := hb.size; (try simp at z1)) | (go_at_call 50; refine (within_any _ _ _ _).mono ?_; rintro e w' ⟨rfl, rfl⟩; rw [HI.out]))
            go_roundw
            case rel => exact ⟨k + 1, _, by omega, by go_num, rfl, HF.out, (by (repeat (first | with_reducible exact Below.refl _ _ | (with_reducible refine bel_next ?_ ?_ (by assumption)) | (with_reducible refine Below.alloc ?_ ?_ _) | (with_reducible refine Below.drew ?_) | (with_reducible refine below_drewN ?_ _) | (with_reducible refine Below.setCell ?_ ?_ _))) <;> (first | omega | (simp; done) | (simp; omega)))⟩
            case measure => simp [intOf]; omega
        by_cases p13 : op = 13
        case pos =>
          subst p13
          have HE : Hid (stepD dd ⟨13, dst, sa, sb, sc, sn⟩ = dd - 1) := by show _ = _; simp [stepD]
          cases hi : inB (dd - 1) 0 3
          · have HF := Lib.hid (depF_bad HX.out HD.out (.inr (by rw [HE.out]; exact hi)))
            have HI := Lib.hid hi
            clear hi
            go_wp2_with (first | (go_at_call 31; refine (iStmtOk_any ⟨13, dst, sa, sb, sc, sn⟩ _).mono ?_; rintro e w1 ⟨rfl, hb⟩; rw [HS.out]; have k1_0 := bel_keeps hb (b := wr.heap.size) (o := 0) (v := .int .i64 13) (by go_simp); have z1 := hb.size; (try simp at z1)) | (go_at_call 50; refine (within_any _ _ _ _).mono ?_; rintro e w' ⟨rfl, rfl⟩; rw [HI.out]))
            go_ret
            exact ⟨ret_bool HF.out.symm, (by (repeat (first | with_reducible exact Below.refl _ _ | (with_reducible refine bel_next ?_ ?_ (by assumption)) | (with_reducible refine Below.alloc ?_ ?_ _) | (with_reducible refine Below.drew ?_) | (with_reducible refine below_drewN ?_ _) | (with_reducible refine Below.setCell ?_ ?_ _))) <;> (first | omega | (simp; done) | (simp; omega)))⟩
          · have HF := Lib.hid (depF_snoc HX.out HD.out HS.out (by rw [HE.out]; exact hi))
            rw [HE.out] at HF
            have HI := Lib.hid hi
            clear hi
            go_wp2_with (first | (go_at_call 31; refine (iStmtOk_any ⟨13, dst, sa, sb, sc, sn⟩ _).mono ?_; rintro e w1 ⟨rfl, hb⟩; rw [HS.out]; have k1_0 := bel_keeps hb (b := wr.heap.size) (o := 0) (v := .int .i64 13) (by go_simp); have z1 := hb.size; (try simp at z1)) | (go_at_call 50; refine (within_any _ _ _ _).mono ?_; rintro e w' ⟨rfl, rfl⟩; rw [HI.out]))
            go_roundw
            case rel => exact ⟨k + 1, _, by omega, by go_num, rfl, HF.out, (by (repeat (first | with_reducible exact Below.refl _ _ | (with_reducible refine bel_next ?_ ?_ (by assumption)) | (with_reducible refine Below.alloc ?_ ?_ _) | (with_reducible refine Below.drew ?_) | (with_reducible refine below_drewN ?_ _) | (with_reducible refine Below.setCell ?_ ?_ _))) <;> (first | omega | (simp; done) | (simp; omega)))⟩
            case measure => simp [intOf]; omega
        have HE : Hid (stepD dd ⟨op, dst, sa, sb, sc, sn⟩ = dd) := by show _ = _; simp [stepD, p12, p13]
        have q12 : (op == 12) = false := by simp; omega
        have q13 : (op == 13) = false := by simp; omega
        clear p12 p13
        cases hi : inB (dd) 0 3
        · have HF := Lib.hid (depF_bad HX.out HD.out (.inr (by rw [HE.out]; exact hi)))
          have HI := Lib.hid hi
          clear hi
          go_wp2_with (first | (go_at_call 31; refine (iStmtOk_any ⟨op, dst, sa, sb, sc, sn⟩ _).mono ?_; rintro e w1 ⟨rfl, hb⟩; rw [HS.out]; have k1_0 := bel_keeps hb (b := wr.heap.size) (o := 0) (v := .int .i64 op) (by go_simp); have z1 := hb.size; (try simp at z1)) | (go_at_call 50; refine (within_any _ _ _ _).mono ?_; rintro e w' ⟨rfl, rfl⟩; rw [HI.out]))
          go_ret
          exact ⟨ret_bool HF.out.symm, (by (repeat (first | with_reducible exact Below.refl _ _ | (with_reducible refine bel_next ?_ ?_ (by assumption)) | (with_reducible refine Below.alloc ?_ ?_ _) | (with_reducible refine Below.drew ?_) | (with_reducible refine below_drewN ?_ _) | (with_reducible refine Below.setCell ?_ ?_ _))) <;> (first | omega | (simp; done) | (simp; omega)))⟩
        · have HF := Lib.hid (depF_snoc HX.out HD.out HS.out (by rw [HE.out]; exact hi))
          rw [HE.out] at HF
          have HI := Lib.hid hi
          clear hi
          go_wp2_with (first | (go_at_call 31; refine (iStmtOk_any ⟨op, dst, sa, sb, sc, sn⟩ _).mono ?_; rintro e w1 ⟨rfl, hb⟩; rw [HS.out]; have k1_0 := bel_keeps hb (b := wr.heap.size) (o := 0) (v := .int .i64 op) (by go_simp); have z1 := hb.size; (try simp at z1)) | (go_at_call 50; refine (within_any _ _ _ _).mono ?_; rintro e w' ⟨rfl, rfl⟩; rw [HI.out]))
          go_roundw
          case rel => exact ⟨k + 1, _, by omega, by go_num, rfl, HF.out, (by (repeat (first | with_reducible exact Below.refl _ _ | (with_reducible refine bel_next ?_ ?_ (by assumption)) | (with_reducible refine Below.alloc ?_ ?_ _) | (with_reducible refine Below.drew ?_) | (with_reducible refine below_drewN ?_ _) | (with_reducible refine Below.setCell ?_ ?_ _))) <;> (first | omega | (simp; done) | (simp; omega)))⟩
          case measure => simp [intOf]; omega
    · have HF := Lib.hid (progOk_end hd (by omega))
      clear hd
      go_wp2_with fail
      all_goals go_ret
      all_goals exact ⟨ret_bool (by rw [HF.out]; simp [*] <;> omega), (by (repeat (first | with_reducible exact Below.refl _ _ | (with_reducible refine bel_next ?_ ?_ (by assumption)) | (with_reducible refine Below.alloc ?_ ?_ _) | (with_reducible refine Below.drew ?_) | (with_reducible refine below_drewN ?_ _) | (with_reducible refine Below.setCell ?_ ?_ _))) <;> (first | omega | (simp; done) | (simp; omega)))⟩
set_option maxHeartbeats 2000000 in
theorem sProgramOk_any (xs : List St) (ad : Option Addr) (cp : Nat) (w : World) (hm : xs.length ≤ maxLen) (hr : RdC w ad (stCells xs)) :
    Calls Tryd.prog 34 #[.slice ad xs.length cp] w fun e w' => e = .returned (.bool (progOk xs)) ∧ Below w.heap.size w w' := by
  unfold maxLen at hm
  go_enter Tryd.func34, Tryd.ntmps34
  go_wp2_with fail
  go_loopw [3, 4] (fun d i wr => ∃ (k : Nat) (dd : Int), k ≤ xs.length ∧ i = .int .i64 k ∧ d = .int .i64 dd ∧ depF 0 (xs.take k) = some dd ∧ Below w.heap.size w wr) (fun _ i _ => xs.length - (intOf i).toNat)
  case atStart => exact ⟨0, 0, Nat.zero_le _, rfl, rfl, rfl, Below.refl _ _⟩
  case round =>
    obtain ⟨k, dd, hk, rfl, rfl, hd, hbw⟩ := hrel
    obtain ⟨d0, d3⟩ := depF_lo hd (by omega)
    by_cases hlt : k < xs.length
    · obtain ⟨b, off, op, dst, sa, sb, sc, sn, rfl, hbl, hx, c0, c1, c2, c3, c4, c5⟩ := (hr.below hbw).st k hlt
      have hbs := hbw.size
      cases hs : stOk ⟨op, dst, sa, sb, sc, sn⟩
      · have HF := Lib.hid (depF_bad hx hd (.inl hs))
        have HS := Lib.hid hs
        clear hd hx hs hr
        go_wp2_with (go_at_call 27; refine (sStmtOk_any ⟨op, dst, sa, sb, sc, sn⟩ _).mono ?_; rintro e w1 ⟨rfl, hb⟩; rw [HS.out]; have k1_0 := bel_keeps hb c0; have z1 := hb.size; (try simp at z1))
        go_ret
        exact ⟨ret_bool HF.out.symm, (by (repeat (first | with_reducible exact Below.refl _ _ | (with_reducible refine bel_next ?_ ?_ (by assumption)) | (with_reducible refine Below.alloc ?_ ?_ _) | (with_reducible refine Below.drew ?_) | (with_reducible refine below_drewN ?_ _) | (with_reducible refine Below.setCell ?_ ?_ _))) <;> (first | omega | (simp; done) | (simp; omega)))⟩
      · have HS := Lib.hid hs
        have HX := Lib.hid hx
        have HD := Lib.hid hd
        clear hd hx hs hr
        by_cases p12 : op = 12
        case pos =>
          subst p12
          have HE : Hid (stepD dd ⟨12, dst, sa, sb, sc, sn⟩ = dd + 1) := by show _ = _; simp [stepD]
          cases hi : inB (dd + 1) 0 3
          · have HF := Lib.hid (depF_bad HX.out HD.out (.inr (by rw [HE.out]; exact hi)))
            have HI := Lib.hid hi
            clear hi
            go_wp2_with (first | (go_at_call 27; refine (sStmtOk_any ⟨12, dst, sa, sb, sc, sn⟩ _).mono ?_; rintro e w1 ⟨rfl, hb⟩; rw [HS.out]; have k1_0 := bel_keeps hb c0; have z1 := hb.size; (try simp at z1)) | (go_at_call 47; refine (l01In_any _ _ _ _).mono ?_; rintro e w' ⟨rfl, rfl⟩; rw [HI.out]))
            go_ret
            exact ⟨ret_bool HF.out.symm, (by (repeat (first | with_reducible exact Below.refl _ _ | (with_reducible refine bel_next ?_ ?_ (by assumption)) | (with_reducible refine Below.alloc ?_ ?_ _) | (with_reducible refine Below.drew ?_) | (with_reducible refine below_drewN ?_ _) | (with_reducible refine Below.setCell ?_ ?_ _))) <;> (first | omega | (simp; done) | (simp; omega)))⟩
          · have HF := Lib.hid (depF_snoc HX.out HD.out HS.out (by rw [HE.out]; exact hi))
            rw [HE.out] at HF
            have HI := Lib.hid hi
            clear hi
            go_wp2_with (first | (go_at_call 27; refine (sStmtOk_any ⟨12, dst, sa, sb, sc, sn⟩ _).mono ?_; rintro e w1 ⟨rfl, hb⟩; rw [HS.out]; have k1_0 := bel_keeps hb c0; have z1 := hb.size; (try simp at z1)) | (go_at_call 47; refine (l01In_any _ _ _ _).mono ?_; rintro e w' ⟨rfl, rfl⟩; rw [HI.out]))
            go_roundw
            case rel => exact ⟨k + 1, _, by omega, by go_num, rfl, HF.out, (by (repeat (first | with_reducible exact Below.refl _ _ | (with_reducible refine bel_next ?_ ?_ (by assumption)) | (with_reducible refine Below.alloc ?_ ?_ _) | (with_reducible refine Below.drew ?_) | (with_reducible refine below_drewN ?_ _) | (with_reducible refine Below.setCell ?_ ?_ _))) <;> (first | omega | (simp; done) | (simp; omega)))⟩
            case measure => simp [intOf]; omega
        by_cases p13 : op = 13
        case pos =>
          subst p13
          have HE : Hid (stepD dd ⟨13, dst, sa, sb, sc, sn⟩ = dd - 1) := by show _ = _; simp [stepD]
          cases hi : inB (dd - 1) 0 3
          · have HF := Lib.hid (depF_bad HX.out HD.out (.inr (by rw [HE.out]; exact hi)))
            have HI := Lib.hid hi
            clear hi
            go_wp2_with (first | (go_at_call 27; refine (sStmtOk_any ⟨13, dst, sa, sb, sc, sn⟩ _).mono ?_; rintro e w1 ⟨rfl, hb⟩; rw [HS.out]; have k1_0 := bel_keeps hb c0; have z1 := hb.size; (try simp at z1)) | (go_at_call 47; refine (l01In_any _ _ _ _).mono ?_; rintro e w' ⟨rfl, rfl⟩; rw [HI.out]))
            go_ret
            exact ⟨ret_bool HF.out.symm, (by (repeat (first | with_reducible exact Below.refl _ _ | (with_reducible refine bel_next ?_ ?_ (by assumption)) | (with_reducible refine Below.alloc ?_ ?_ _) | (with_reducible refine Below.drew ?_) | (with_reducible refine below_drewN ?_ _) | (with_reducible refine Below.setCell ?_ ?_ _))) <;> (first | omega | (simp; done) | (simp; omega)))⟩
          · have HF := Lib.hid (depF_snoc HX.out HD.out HS.out (by rw [HE.out]; exact hi))
            rw [HE.out] at HF
            have HI := Lib.hid hi
            clear hi
            go_wp2_with (first | (go_at_call 27; refine (sStmtOk_any ⟨13, dst, sa, sb, sc, sn⟩ _).mono ?_; rintro e w1 ⟨rfl, hb⟩; rw [HS.out]; have k1_0 := bel_keeps hb c0; have z1 := hb.size; (try simp at z1)) | (go_at_call 47; refine (l01In_any _ _ _ _).mono ?_; rintro e w' ⟨rfl, rfl⟩; rw [HI.out]))
            go_roundw
            case rel => exact ⟨k + 1, _, by omega, by go_num, rfl, HF.out, (by (repeat (first | with_reducible exact Below.refl _ _ | (with_reducible refine bel_next ?_ ?_ (by assumption)) | (with_reducible refine Below.alloc ?_ ?_ _) | (with_reducible refine Below.drew ?_) | (with_reducible refine below_drewN ?_ _) | (with_reducible refine Below.setCell ?_ ?_ _))) <;> (first | omega | (simp; done) | (simp; omega)))⟩
            case measure => simp [intOf]; omega
        have HE : Hid (stepD dd ⟨op, dst, sa, sb, sc, sn⟩ = dd) := by show _ = _; simp [stepD, p12, p13]
        have q12 : (op == 12) = false := by simp; omega
        have q13 : (op == 13) = false := by simp; omega
        clear p12 p13
        cases hi : inB (dd) 0 3
        · have HF := Lib.hid (depF_bad HX.out HD.out (.inr (by rw [HE.out]; exact hi)))
          have HI := Lib.hid hi
          clear hi
          go_wp2_with (first | (go_at_call 27; refine (sStmtOk_any ⟨op, dst, sa, sb, sc, sn⟩ _).mono ?_; rintro e w1 ⟨rfl, hb⟩; rw [HS.out]; have k1_0 := bel_keeps hb c0; have z1 := hb.size; (try simp at z1)) | (go_at_call 47; refine (l01In_any _ _ _ _).mono ?_; rintro e w' ⟨rfl, rfl⟩; rw [HI.out]))
          go_ret
          exact ⟨ret_bool HF.out.symm, (by (repeat (first | with_reducible exact Below.refl _ _ | (with_reducible refine bel_next ?_ ?_ (by assumption)) | (with_reducible refine Below.alloc ?_ ?_ _) | (with_reducible refine Below.drew ?_) | (with_reducible refine below_drewN ?_ _) | (with_reducible refine Below.setCell ?_ ?_ _))) <;> (first | omega | (simp; done) | (simp; omega)))⟩
        · have HF := Lib.hid (depF_snoc HX.out HD.out HS.out (by rw [HE.out]; exact hi))
          rw [HE.out] at HF
          have HI := Lib.hid hi
          clear hi
          go_wp2_with (first | (go_at_call 27; refine (sStmtOk_any ⟨op, dst, sa, sb, sc, sn⟩ _).mono ?_; rintro e w1 ⟨rfl, hb⟩; rw [HS.out]; have k1_0 := bel_keeps hb c0; have z1 := hb.size; (try simp at z1)) | (go_at_call 47; refine (l01In_any _ _ _ _).mono ?_; rintro e w' ⟨rfl, rfl⟩; rw [HI.out]))
          go_roundw
          case rel => exact ⟨k + 1, _, by omega, by go_num, rfl, HF.out, (by (repeat (first | with_reducible exact Below.refl _ _ | (with_reducible refine bel_next ?_ ?_ (by assumption)) | (with_reducible refine Below.alloc ?_ ?_ _) | (with_reducible refine Below.drew ?_) | (with_reducible refine below_drewN ?_ _) | (with_reducible refine Below.setCell ?_ ?_ _))) <;> (first | omega | (simp; done) | (simp; omega)))⟩
          case measure => simp [intOf]; omega
    · have HF := Lib.hid (progOk_end hd (by omega))
      clear hd
      go_wp2_with fail
      all_goals go_ret
      all_goals exact ⟨ret_bool (by rw [HF.out]; simp [*] <;> omega), (by (repeat (first | with_reducible exact Below.refl _ _ | (with_reducible refine bel_next ?_ ?_ (by assumption)) | (with_reducible refine Below.alloc ?_ ?_ _) | (with_reducible refine Below.drew ?_) | (with_reducible refine below_drewN ?_ _) | (with_reducible refine Below.setCell ?_ ?_ _))) <;> (first | omega | (simp; done) | (simp; omega)))⟩
end Go.Proofs.YtigefmobejclaaaDoor

/- Facts on steps. -/
import Derived.Test.YtfeffofoofmgcaaRunFacts
import Derived.Test.YtfeffofoofmgcaaProgFacts
namespace Go.Proofs.Ytfeffofoofmgcaa
open Go.RowKit
set_option linter.unusedVariables false
set_option linter.unusedSimpArgs false
set_option maxHeartbeats 2000000 in
theorem sWritesOf_any (s : St) (w : World) :
    Calls Try.prog 76 #[stV s] w fun e w' => e = .returned (.int .i64 (writesOf s)) ∧ Below w.heap.size w w' := by
  obtain ⟨op, dst, a, b, c, n⟩ := s
  cases hs : stOk ⟨op, dst, a, b, c, n⟩
  · have HS := Lib.hid hs
    have HF : Hid (writesOf ⟨op, dst, a, b, c, n⟩ = -1) := by show _ = _; simp [writesOf, hs]
    clear hs
    unfold stV
    go_enter Try.func76, Try.ntmps76
    go_wp2_with (go_at_call 88; refine (sStmtOk_any ⟨op, dst, a, b, c, n⟩ _).mono ?_; rintro e w1 ⟨rfl, hb⟩; rw [HS.out]; have k1_0 := bel_keeps hb (b := w.heap.size) (o := 0) (v := .int .i64 op) (by go_simp); have k1_1 := bel_keeps hb (b := w.heap.size) (o := 1) (v := .int .i64 dst) (by go_simp))
    go_ret
    exact ⟨ret_int HF.out.symm, (by (repeat (first | with_reducible exact Below.refl _ _ | (with_reducible refine bel_next ?_ ?_ (by assumption)) | (with_reducible refine Below.alloc ?_ ?_ _) | (with_reducible refine Below.drew ?_) | (with_reducible refine below_drewN ?_ _) | (with_reducible refine Below.setCell ?_ ?_ _))) <;> (first | omega | (simp; done) | (simp; omega)))⟩
  · have HS := Lib.hid hs
    by_cases h : op ≤ 10
    · have HF : Hid (writesOf ⟨op, dst, a, b, c, n⟩ = dst) := by show _ = _; simp [writesOf, hs, h]
      clear hs
      unfold stV
      go_enter Try.func76, Try.ntmps76
      go_wp2_with (go_at_call 88; refine (sStmtOk_any ⟨op, dst, a, b, c, n⟩ _).mono ?_; rintro e w1 ⟨rfl, hb⟩; rw [HS.out]; have k1_0 := bel_keeps hb (b := w.heap.size) (o := 0) (v := .int .i64 op) (by go_simp); have k1_1 := bel_keeps hb (b := w.heap.size) (o := 1) (v := .int .i64 dst) (by go_simp))
      go_ret
      exact ⟨ret_int HF.out.symm, (by (repeat (first | with_reducible exact Below.refl _ _ | (with_reducible refine bel_next ?_ ?_ (by assumption)) | (with_reducible refine Below.alloc ?_ ?_ _) | (with_reducible refine Below.drew ?_) | (with_reducible refine below_drewN ?_ _) | (with_reducible refine Below.setCell ?_ ?_ _))) <;> (first | omega | (simp; done) | (simp; omega)))⟩
    · have HF : Hid (writesOf ⟨op, dst, a, b, c, n⟩ = -1) := by show _ = _; simp [writesOf, hs, h]
      clear hs
      unfold stV
      go_enter Try.func76, Try.ntmps76
      go_wp2_with (go_at_call 88; refine (sStmtOk_any ⟨op, dst, a, b, c, n⟩ _).mono ?_; rintro e w1 ⟨rfl, hb⟩; rw [HS.out]; have k1_0 := bel_keeps hb (b := w.heap.size) (o := 0) (v := .int .i64 op) (by go_simp); have k1_1 := bel_keeps hb (b := w.heap.size) (o := 1) (v := .int .i64 dst) (by go_simp))
      go_ret
      exact ⟨ret_int HF.out.symm, (by (repeat (first | with_reducible exact Below.refl _ _ | (with_reducible refine bel_next ?_ ?_ (by assumption)) | (with_reducible refine Below.alloc ?_ ?_ _) | (with_reducible refine Below.drew ?_) | (with_reducible refine below_drewN ?_ _) | (with_reducible refine Below.setCell ?_ ?_ _))) <;> (first | omega | (simp; done) | (simp; omega)))⟩

theorem step_keeps {rs os : List Int} {s : St} {xss : List (List Int)} {k : Nat} (hk : (k : Int) ≠ writesOf s) : (stepRegs rs os s xss).getD k 0 = rs.getD k 0 := by
  unfold stepRegs
  split
  case isFalse => rfl
  case isTrue h =>
    simp only [stepB, Bool.and_eq_true] at h
    split
    · rfl
    · have hp : plainB s = true := h.1.2
      simp only [plainB, Bool.and_eq_true, decide_eq_true_eq] at hp
      have hh := stok_regs hp.1
      have hw : writesOf s = s.dst := by simp [writesOf, hp.1]; omega
      have : s.dst.toNat ≠ k := by omega
      simp [List.getD, List.getElem?_set_ne this]
theorem step_state {rs os : List Int} {s : St} {rr : List Rw} (h : stateOk rs os = true) (hin : inputsOk (rr.map Rw.xs) = true) : stateOk (stepRegs rs os s (rr.map Rw.xs)) (stepOuts rs os s (rr.map Rw.xs)) = true := by
  cases hB : stepB s rs os (rr.map Rw.xs)
  · simp [stepRegs, stepOuts, hB, h]
  · simp only [stepB, Bool.and_eq_true] at hB
    have hp := hB.1.2
    simp only [plainB, Bool.and_eq_true, decide_eq_true_eq] at hp
    exact (step_ok h hp.1 hp.2 hin).1

end Go.Proofs.Ytfeffofoofmgcaa

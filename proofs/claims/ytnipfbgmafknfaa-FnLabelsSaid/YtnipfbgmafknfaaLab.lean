/- Contracts of the functions on labels and words. -/
import Derived.Test.YtnipfbgmafknfaaScal
namespace Go.Proofs.Ytnipfbgmafknfaa
open Go.RowKit

/-- The label of a value. -/
def labelFor (a b v : Int) : Int := if inB a 0 65535 && inB b 0 65535 && inB v 0 1 then (if v = 1 then bits BinOp.xor IntKind.i64 a b else a) else -1
theorem allB2 (a b lo hi : Int) : allB [a, b] lo hi = (inB a lo hi && inB b lo hi) := by simp [allB]

set_option maxHeartbeats 400000 in
theorem iLabelFor_any (a b v : Int) (w : World) :
    Calls Try.prog 16 #[.int .i64 a, .int .i64 b, .int .i64 v] w fun e w' => e = .returned (.int .i64 (labelFor a b v)) ∧ Below w.heap.size w w' := by
  have HE : labelFor a b v = if allB [a, b] 0 65535 then (if inB v 0 1 then (if v = 1 then bits BinOp.xor IntKind.i64 a b else a) else -1) else -1 := by
    unfold labelFor; rw [allB2]; cases inB a 0 65535 <;> cases inB b 0 65535 <;> cases inB v 0 1 <;> rfl
  rw [HE]; clear HE
  cases hv : inB v 0 1
  · cases hab : allB [a, b] 0 65535
    all_goals
      go_enter Try.func16, Try.ntmps16
      go_wp2_with (first | (go_at_call 51; refine (areLabels_any [a, b] _ _ _ (by simp [maxLen]) (RdC.alloc _ _ _)).mono ?_; rintro e w' ⟨rfl, rfl⟩) | (go_at_call 52; refine (within_any _ _ _ _).mono ?_; rintro e w' ⟨rfl, rfl⟩))
      go_ret
      exact ⟨by simp, by (repeat (first | exact Below.refl _ _ | (refine bel_next ?_ ?_ (by assumption)) | (refine Below.alloc ?_ ?_ _) | (refine Below.drew ?_) | (refine Below.setCell ?_ ?_ _))) <;> (first | omega | (simp; done) | (simp; omega))⟩
  · cases hab : allB [a, b] 0 65535
    · go_enter Try.func16, Try.ntmps16
      go_wp2_with (first | (go_at_call 51; refine (areLabels_any [a, b] _ _ _ (by simp [maxLen]) (RdC.alloc _ _ _)).mono ?_; rintro e w' ⟨rfl, rfl⟩) | (go_at_call 52; refine (within_any _ _ _ _).mono ?_; rintro e w' ⟨rfl, rfl⟩))
      go_ret
      exact ⟨by simp, by (repeat (first | exact Below.refl _ _ | (refine bel_next ?_ ?_ (by assumption)) | (refine Below.alloc ?_ ?_ _) | (refine Below.drew ?_) | (refine Below.setCell ?_ ?_ _))) <;> (first | omega | (simp; done) | (simp; omega))⟩
    · have h2 := inB_iff.1 hv
      have h3 := allB_iff.1 hab
      obtain ⟨ha1, ha2⟩ := h3 a (by simp)
      obtain ⟨hb1, hb2⟩ := h3 b (by simp)
      clear h3
      have h4 : v = 0 ∨ v = 1 := by omega
      clear h2
      rcases h4 with rfl | rfl
      all_goals
        go_enter Try.func16, Try.ntmps16
        go_wp2_with (first | (go_at_call 51; refine (areLabels_any [a, b] _ _ _ (by simp [maxLen]) (RdC.alloc _ _ _)).mono ?_; rintro e w' ⟨rfl, rfl⟩) | (go_at_call 52; refine (within_any _ _ _ _).mono ?_; rintro e w' ⟨rfl, rfl⟩))
        go_ret
        exact ⟨by simp [i64_xor_zero ha1 (by omega)], by (repeat (first | exact Below.refl _ _ | (refine bel_next ?_ ?_ (by assumption)) | (refine Below.alloc ?_ ?_ _) | (refine Below.drew ?_) | (refine Below.setCell ?_ ?_ _))) <;> (first | omega | (simp; done) | (simp; omega))⟩

/-- The value of a label. -/
def valueOf (a b l : Int) : Int := if inB a 0 65535 && inB b 0 65535 then (if l = a then 0 else if l = bits BinOp.xor IntKind.i64 a b then 1 else -1) else -1

theorem valueOf_eq (a b l : Int) : valueOf a b l = if 0 ≤ labelFor a b 0 ∧ labelFor a b 0 = l then 0 else if 0 ≤ labelFor a b 1 ∧ labelFor a b 1 = l then 1 else -1 := by
  have e0 : inB 0 0 1 = true := rfl
  have e1 : inB 1 0 1 = true := rfl
  unfold valueOf labelFor
  rw [e0, e1]
  cases ha : inB a 0 65535 <;> cases hb : inB b 0 65535
  · simp
  · simp
  · simp
  · have h1 := inB_iff.1 ha
    have h2 := inB_iff.1 hb
    have h3 := i64_xor_range 16 (by omega) h1.1 (by omega) h2.1 (by omega)
    simp only [Bool.and_self, if_true]
    generalize bits BinOp.xor IntKind.i64 a b = x at *
    (repeat' split) <;> omega

set_option maxHeartbeats 400000 in
theorem iValueOf_any (a b l : Int) (w : World) :
    Calls Try.prog 18 #[.int .i64 a, .int .i64 b, .int .i64 l] w fun e w' => e = .returned (.int .i64 (valueOf a b l)) ∧ Below w.heap.size w w' := by
  have HE : valueOf a b l = if allB [a, b] 0 65535 then (if l = a then 0 else if l = bits BinOp.xor IntKind.i64 a b then 1 else -1) else -1 := by
    unfold valueOf; rw [allB2]
  rw [HE]; clear HE
  cases hab : allB [a, b] 0 65535 <;> cases g0 : (l == a) <;> cases g1 : (l == bits BinOp.xor IntKind.i64 a b)
  all_goals
    go_enter Try.func18, Try.ntmps18
    go_wp2_with (go_at_call 51; refine (areLabels_any [a, b] _ _ _ (by simp [maxLen]) (RdC.alloc _ _ _)).mono ?_; rintro e w' ⟨rfl, rfl⟩)
    all_goals go_ret
    all_goals go_light
    all_goals refine ⟨ret_int ?_, by (repeat (first | exact Below.refl _ _ | (refine bel_next ?_ ?_ (by assumption)) | (refine Below.alloc ?_ ?_ _) | (refine Below.drew ?_) | (refine Below.setCell ?_ ?_ _))) <;> (first | omega | (simp; done) | (simp; omega))⟩
    all_goals (generalize bits BinOp.xor IntKind.i64 a b = x at *; simp_all)
end Go.Proofs.Ytnipfbgmafknfaa

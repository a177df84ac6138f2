/- matching, UnrolledSize, l10Size. -/
import Derived.Test.YtigefmobejclaaaDoorProgOk
import Derived.Test.YtigefmobejclaaaDoorQuiet
namespace Go.Proofs.YtigefmobejclaaaDoor
open Go.RowKit
set_option linter.unusedVariables false
set_option linter.unusedSimpArgs false

theorem depF_pre {xs : List St} {d e : Int} (h : depF d xs = some e) (k : Nat) : ∃ c, depF d (xs.take k) = some c := by
  rw [← List.take_append_drop k xs, depF_append] at h
  cases hd : depF d (xs.take k) with
  | none => rw [hd] at h; cases h
  | some c => exact ⟨c, rfl⟩
theorem depF_step {xs : List St} {k : Nat} {s : St} {c e : Int} (h : depF 0 xs = some e) (hx : xs[k]? = some s) (hc : depF 0 (xs.take k) = some c) :
    depF 0 (xs.take (k + 1)) = some (stepD c s) ∧ 0 ≤ stepD c s ∧ stepD c s ≤ 3 := by
  obtain ⟨c', hc'⟩ := depF_pre h (k + 1)
  have e1 := hc'
  rw [take_snocS hx, depF_append, hc] at e1
  simp only [Option.bind_some, depF] at e1
  split at e1
  case isFalse => cases e1
  case isTrue hq =>
    simp only [Bool.and_eq_true, inB_iff] at hq
    exact ⟨by rw [hc']; exact e1.symm, hq.2⟩

theorem drop_at {xs rest : List St} {k : Nat} {s : St} (h : xs.drop k = s :: rest) : xs[k]? = some s ∧ xs.drop (k + 1) = rest ∧ k < xs.length := by
  have h1 : xs[k]? = some s := by have := congrArg (·[0]?) h; simpa [List.getElem?_drop] using this
  refine ⟨h1, ?_, (List.getElem?_eq_some_iff.1 h1).1⟩
  rw [← List.drop_drop, h]; rfl
theorem RdC.part {w : World} {b off : Nat} {xs : List St} (h : RdC w (some ⟨b, off, none⟩) (stCells xs)) (k : Nat) (ys : List St) (n : Nat) (hy : (xs.drop k).take n = ys) : RdC w (some ⟨b, off + k * 6, none⟩) (stCells ys) := by
  rcases h with h | ⟨b', off', h1, h2⟩
  · have hl := stCells_length xs
    rw [h] at hl
    have : xs = [] := List.eq_nil_of_length_eq_zero (by simp at hl; omega)
    subst this; simp at hy; subst hy; exact .inl rfl
  · simp only [Option.some.injEq, Addr.mk.injEq, and_true] at h1
    obtain ⟨rfl, rfl⟩ := h1
    refine .inr ⟨b, off + k * 6, rfl, fun i hi => ?_⟩
    have hly := stCells_length ys
    have hi' : i < ys.length * 6 := by omega
    obtain ⟨q, j, hj, rfl⟩ : ∃ q j, j < 6 ∧ i = q * 6 + j := ⟨i / 6, i % 6, Nat.mod_lt _ (by omega), by omega⟩
    have hq : q < ys.length := by omega
    have e1 := stCells_get ys q j hj
    have hyl : ys.length ≤ xs.length - k ∧ q < n := by
      have := congrArg List.length hy; simp at this; omega
    have e2 := stCells_get xs (k + q) j hj
    have e3 : ys[q]? = xs[k + q]? := by rw [← hy, List.getElem?_take_of_lt hyl.2, List.getElem?_drop]
    rw [← e3, ← e1, List.getElem?_eq_getElem hi] at e2
    have hlt : (k + q) * 6 + j < (stCells xs).length := by have := stCells_length xs; omega
    rw [List.getElem?_eq_getElem hlt] at e2
    rw [show off + k * 6 + (q * 6 + j) = off + ((k + q) * 6 + j) from by omega, h2 _ hlt, Option.some.inj e2]

theorem ur_cases {b : Nat} {xs us : List St} (h : Ur b xs us) : (xs = [] ∧ us = []) ∨
    (∃ s r u, xs = s :: r ∧ us = s :: u ∧ stOk s = true ∧ s.op ≠ 12 ∧ s.op ≠ 13 ∧ Ur b r u) ∨
    (∃ b' l e body r v u, b = b' + 1 ∧ xs = l :: (body ++ e :: r) ∧ us = repS l.n v ++ u ∧ stOk l = true ∧ stOk e = true ∧ l.op = 12 ∧ e.op = 13 ∧ Ur b' body v ∧ Ur b r u) := by
  cases h with
  | nil => exact .inl ⟨rfl, rfl⟩
  | plain b s r u h1 h2 h3 h4 => exact .inr (.inl ⟨s, r, u, rfl, rfl, h1, h2, h3, h4⟩)
  | loop b l e body r v u h1 h2 h3 h4 h5 h6 => exact .inr (.inr ⟨b, l, e, body, r, v, u, rfl, rfl, rfl, h1, h2, h3, h4, h5, h6⟩)

theorem ret_two {a b c d : Int} (h : a = b) (h' : c = d) : Ending.returned (.tuple #[.int .i64 a, .int .i64 c]) = .returned (.tuple #[.int .i64 b, .int .i64 d]) := by rw [h, h']
/-- The predicted size: -1, or that of the unrolled list. -/
def IsSize (xs : List St) (v : Int) : Prop := (progOk xs = false ∧ v = -1) ∨ (progOk xs = true ∧ xs.length ≤ 40 ∧ ∃ us, Ur 3 xs us ∧ v = us.length ∧ us.length ≤ 20480)
theorem size_ex (xs : List St) : ∃ v, IsSize xs v := by
  cases h : progOk xs
  · exact ⟨-1, .inl ⟨h, rfl⟩⟩
  · obtain ⟨hl, us, hu⟩ := ur_of_progOk h
    exact ⟨us.length, .inr ⟨h, hl, us, hu, rfl, Nat.le_trans (ur_bound hu) (Nat.le_trans (Nat.mul_le_mul (Nat.le_refl _) hl) (by decide))⟩⟩

end Go.Proofs.YtigefmobejclaaaDoor

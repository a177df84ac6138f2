/- Appending statements; unrolled, l10Block, Unroll. -/
import Derived.Test.YtigefmobejclaaaDoorUnr
import Derived.Test.YtigefmobejclaaaDoorStmtList
import Derived.Test.YtigefmobejclaaaDoorOpen
import Derived.Maps.AppendAt
namespace Go.Proofs.YtigefmobejclaaaDoor
open Go.RowKit
set_option linter.unusedVariables false
set_option linter.unusedSimpArgs false

theorem stCells_one (xs : List St) : ∀ u ∈ stCells xs, u.oneCell' = true := by
  intro u hu
  simp only [stCells, List.mem_flatMap, St.cells] at hu
  obtain ⟨s, _, hs⟩ := hu
  simp at hs
  rcases hs with rfl | rfl | rfl | rfl | rfl | rfl <;> rfl

theorem Own.shape {w : World} {lo e size : Nat} {v : Value} {n : Nat} {cs : List Value} (h : w.ownsRow lo e size v n cs) (hv : v ≠ .slice none 0 0) : ∃ g cap, v = .slice (some ⟨g, 0, none⟩) n cap ∧ Own w lo e size (some ⟨g, 0, none⟩) n cap cs := by
  rcases h.2 with ⟨he, h0⟩ | ⟨g, cap, cur, he, rest⟩
  · exact absurd he hv
  · subst he; exact ⟨g, cap, rfl, h⟩

section
variable {ops : Array Oper} {rest : List Oper} {o : Oper} {a : Act} {Q : Exit → Act → World → Prop}
theorem wpList_appSt (W : World) (hgd : o.guard = none) (s x : Operand) (ho : o.op = .call { callee := .builtin .append, args := #[s, x], argTypes := #[32, 32] })
    (lo n cap g B off m c : Nat) (xs ys : List St) (hs : a.eval s = .slice (some ⟨g, 0, none⟩) n cap) (hx : a.eval x = .slice (some ⟨B, off, none⟩) m c)
    (hown : Own W lo 26 6 (some ⟨g, 0, none⟩) n cap (stCells xs)) (hr : RdC W (some ⟨B, off, none⟩) (stCells ys)) (hm : ys.length = m) (hn : n + m ≤ 1048576) (hlo : lo ≤ W.heap.size)
    (h : ∀ g' cap' w', Own w' lo 26 6 (some ⟨g', 0, none⟩) (n + m) cap' (stCells (xs ++ ys)) → Below lo W w' → W.grownBy w' (some g) → (g' = g ∨ g' = W.heap.size) → wpList Tryd.prog ops Q rest (a.put o.dst (.slice (some ⟨g', 0, none⟩) (n + m) cap')) w') :
    wpList Tryd.prog ops Q (o :: rest) a W := by
  obtain ⟨i0, hi, hz0, hz1, hz2⟩ := info_parts info_st
  refine wpList_append_own_at W hgd s x 32 ho lo 26 i0 _ 6 48 Tryd.underlying32 hi hz0 hz1 hz2 rfl (by omega) _ n (stCells xs) hs hown ⟨B, off, none⟩ m c (stCells ys) hx (by rw [stCells_length, hm]) ?_ (stCells_one ys)
    (by unfold maxLen; omega) (by omega) hlo ?_
  · intro j u hj
    rw [add_plain]
    rcases hr with h0 | ⟨b', off', e, hc⟩
    · rw [h0] at hj; cases hj
    · simp only [Option.some.injEq, Addr.mk.injEq, and_true] at e
      obtain ⟨rfl, rfl⟩ := e
      obtain ⟨hlt, rfl⟩ := List.getElem?_eq_some_iff.1 hj
      exact hc j hlt
  · intro v' w' h2 h3 h4 h5
    have hv : v' ≠ .slice none 0 0 := fun e => by have := (h4.1 e).1; simp at this
    obtain ⟨g', cap', rfl, h6⟩ := Own.shape h2 hv
    rw [own_block] at h3
    rw [← stCells_append] at h6
    refine h g' cap' w' h6 (hown.below hlo h3) h3 ?_
    rw [own_block, own_block] at h5
    simpa using h5
end

theorem repS_len_le (j : Nat) (nn : Nat) (v : List St) (h : j ≤ nn) : (repS (j : Int) v).length ≤ nn * v.length := by
  rw [repS_length]; simp; exact Nat.mul_le_mul_right _ h

theorem own_empty (w : World) (e size : Nat) : Own (w.alloc (.cells #[] e)) w.heap.size e size (some ⟨w.heap.size, 0, none⟩) 0 0 [] := by
  refine ⟨by simp, .inr ⟨w.heap.size, 0, #[], rfl, Nat.le_refl _, heap_alloc_new w _, by simp, by simp, ?_⟩⟩
  all_goals simp

theorem ret_sl {a : Option Addr} {n n' c : Nat} {x y : Int} (h : n = n') (h' : x = y) : Ending.returned (.tuple #[.slice a n c, .int .i64 x]) = .returned (.tuple #[.slice a n' c, .int .i64 y]) := by rw [h, h']
/-- What Unroll hands back. -/
def IsUnr (xs us : List St) (ok : Bool) : Prop :=
  (ok = false ∧ us = [] ∧ progOk xs = false) ∨ (ok = false ∧ us = [] ∧ progOk xs = true ∧ xs.length ≤ 40 ∧ ∃ u, Ur 3 xs u ∧ 120 < u.length ∧ u.length ≤ 20480) ∨
  (ok = true ∧ progOk xs = true ∧ xs.length ≤ 40 ∧ Ur 3 xs us ∧ us.length ≤ 120)
theorem unr_ex (xs : List St) : ∃ us ok, IsUnr xs us ok := by
  obtain ⟨v, hv⟩ := size_ex xs
  rcases hv with ⟨h, _⟩ | ⟨h, hl, us, hu, _, hb⟩
  · exact ⟨[], false, .inl ⟨rfl, rfl, h⟩⟩
  · by_cases h120 : us.length ≤ 120
    · exact ⟨us, true, .inr (.inr ⟨rfl, h, hl, hu, h120⟩)⟩
    · exact ⟨[], false, .inr (.inl ⟨rfl, rfl, h, hl, us, hu, by omega, hb⟩)⟩
theorem unr_len {xs us : List St} {ok : Bool} (h : IsUnr xs us ok) : us.length ≤ 120 := by
  rcases h with ⟨_, rfl, _⟩ | ⟨_, rfl, _⟩ | ⟨_, _, _, _, h⟩
  · simp
  · simp
  · exact h

end Go.Proofs.YtigefmobejclaaaDoor

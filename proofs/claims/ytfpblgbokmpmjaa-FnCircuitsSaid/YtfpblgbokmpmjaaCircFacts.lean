/- Depths and and gates, plainly. -/
import Derived.Test.YtfpblgbokmpmjaaEvP
import Derived.Test.YtfpblgbokmpmjaaCount
namespace Go.Proofs.Ytfpblgbokmpmjaa
open Go.RowKit
set_option linter.unusedVariables false
set_option linter.unusedSimpArgs false

theorem foldmax (xs : List Int) : ∀ a : Int, a ≤ xs.foldl max a ∧ ∀ x ∈ xs, x ≤ xs.foldl max a := by
  induction xs with
  | nil => intro a; simp
  | cons y r ih =>
    intro a
    have h := ih (max a y)
    rw [List.foldl_cons]
    refine ⟨by omega, fun x hx => ?_⟩
    rcases List.mem_cons.1 hx with rfl | hx
    · omega
    · exact h.2 x hx
theorem at0_le_depM (gs : List Gt) (i : Int) : at0 (depL gs) i ≤ depM gs := by
  have h := foldmax (depL gs) 0
  unfold at0
  by_cases hi : i.toNat < (depL gs).length
  · simp only [List.getD, List.getElem?_eq_getElem hi, Option.getD_some]; exact h.2 _ (List.getElem_mem hi)
  · simp only [List.getD, List.getElem?_eq_none (by omega : (depL gs).length ≤ i.toNat), Option.getD_none]; exact h.1
theorem at0_ge_dep (gs : List Gt) (i : Int) : 0 ≤ at0 (depL gs) i := (at0_b (depL_b gs) (by omega) (by omega)).1
theorem cntG_append (kd : Int) (gs : List Gt) (g : Gt) : cntG kd (gs ++ [g]) = cntG kd gs + if g.kd = kd then 1 else 0 := by
  have h : (gs ++ [g])[gs.length]? = some g := by simp
  have := cntG_snoc (kd := kd) h
  rwa [List.take_of_length_le (by simp), List.take_left' rfl] at this
theorem dval_and (gs : List Gt) (g : Gt) (h : g.kd = 4) : dval (depL gs) g = max (at0 (depL gs) g.ga) (at0 (depL gs) g.gb) + 1 := by simp [dval, h]
theorem dval_not (gs : List Gt) (g : Gt) (h : g.kd ≠ 4) : dval (depL gs) g ≤ depM gs := by
  have h1 := at0_le_depM gs g.ga
  have h2 := at0_le_depM gs g.gb
  have h3 := (depM_b gs).1
  unfold dval
  simp only [h, if_false]
  repeat (first | split | omega)
theorem depM_cnt (gs : List Gt) : depM gs ≤ cntG 4 gs ∧ (0 < cntG 4 gs ↔ 0 < depM gs) := by
  induction gs using snocRec with
  | h0 => simp [depM, depL, cntG]
  | h1 gs g ih =>
    rw [depM_append, cntG_append]
    have h1 := at0_le_depM gs g.ga
    have h2 := at0_le_depM gs g.gb
    have h3 := at0_ge_dep gs g.ga
    by_cases h : g.kd = 4
    · rw [dval_and gs g h, if_pos h]; omega
    · have := dval_not gs g h
      rw [if_neg h]; omega
/-- One more and gate. -/
def moreAnd (gs : List Gt) : List Gt := gs ++ [⟨4, (gs.length : Int) - 1, 0⟩]
theorem moreAnd_ok {gs : List Gt} {os : List Int} (h : circOk gs os = true) (h1 : 1 ≤ gs.length) (h2 : gs.length ≤ 5999) : circOk (moreAnd gs) os = true := by
  obtain ⟨h3, h4, h5⟩ := circ_parts h
  unfold circOk moreAnd
  rw [gtsOk_append, h3]
  have h6 : gateOk 4 ((gs.length : Int) - 1) 0 gs.length = true := by simp [gateOk]; omega
  have h7 : allB os 0 (((gs ++ [(⟨4, (gs.length : Int) - 1, 0⟩ : Gt)]).length : Int) - 1) = true := allB_mono h4 (by simp; omega)
  rw [h7]
  simp [gtsOk, h6]
  omega
theorem moreAnd_depth (gs : List Gt) : (depM (moreAnd gs) = depM gs ∨ depM (moreAnd gs) = depM gs + 1) ∧ 1 ≤ depM (moreAnd gs) ∧ cntG 4 (moreAnd gs) = cntG 4 gs + 1 := by
  unfold moreAnd
  rw [depM_append, cntG_append, if_pos rfl, dval_and gs _ rfl]
  have h1 := at0_le_depM gs ((gs.length : Int) - 1)
  have h2 := at0_le_depM gs 0
  have h3 := at0_ge_dep gs 0
  have h4 := depM_b gs
  refine ⟨?_, ?_, rfl⟩
  · show max (depM gs) (max (at0 (depL gs) ((gs.length : Int) - 1)) (at0 (depL gs) 0) + 1) = _ ∨ max (depM gs) (max (at0 (depL gs) ((gs.length : Int) - 1)) (at0 (depL gs) 0) + 1) = _
    omega
  · show 1 ≤ max (depM gs) (max (at0 (depL gs) ((gs.length : Int) - 1)) (at0 (depL gs) 0) + 1)
    omega
end Go.Proofs.Ytfpblgbokmpmjaa

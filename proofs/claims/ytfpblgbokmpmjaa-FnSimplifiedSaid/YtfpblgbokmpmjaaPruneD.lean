/- Prune: what both need. -/
import Derived.Test.YtfpblgbokmpmjaaPruneL
import Derived.Test.YtfpblgbokmpmjaaCopyC
import Derived.Test.YtfpblgbokmpmjaaCircOk
import Derived.Deep.RegionHeld3
import Derived.Deep.RegionLaw
namespace Go.Proofs.Ytfpblgbokmpmjaa
open Go.RowKit
set_option linter.unusedVariables false
set_option linter.unusedSimpArgs false

def prG (gs : List Gt) (os : List Int) : List Gt := if circOk gs os then pruneG gs os else gs
def prO (gs : List Gt) (os : List Int) : List Int := if circOk gs os then pruneO gs os else os
theorem pair_snd {α β : Type} {p q : α × β} (h : p = q) : p.2 = q.2 := by rw [h]
theorem pair_fst {α β : Type} {p q : α × β} (h : p = q) : p.1 = q.1 := by rw [h]
theorem Own.putI {w : World} {lo g n cap : Nat} {l : List Int} (h : Own w lo 3 1 (some ⟨g, 0, none⟩) n cap (I64 l)) (j : Nat) (b : Int) : Own (w.setCell ⟨g, j, none⟩ (.int .i64 b)) lo 3 1 (some ⟨g, 0, none⟩) n cap (I64 (l.set j b)) := by
  have := h.put j (.int .i64 b)
  rwa [I64_set] at this
theorem Own.intF {w : World} {lo g n cap : Nat} {l : List Int} (h : Own w lo 3 1 (some ⟨g, 0, none⟩) n cap (I64 l)) (j : Nat) (hj : j < l.length) : w.cell? ⟨g, j, none⟩ = some (.int .i64 (at0 l j)) ∧ w.frozen? ⟨g, j, none⟩ = false := by
  have := h.get j (by simpa using hj)
  rw [I64_get l j hj] at this
  rw [at0_nat]
  simpa [List.getD, List.getElem?_eq_getElem hj] using this

end Go.Proofs.Ytfpblgbokmpmjaa

/- A struct of six numbers, by value, opened. -/
import Derived.Test.YtigefmobejclaaaDoorOpen
import Derived.Lib.SmallJoins
namespace Go.Proofs.YtigefmobejclaaaDoor
open Go.RowKit Go.ChangeShapes Go.WideShapes Go.ChangeAt
set_option linter.unusedVariables false
section
variable {H : Type} {enc : TypeId × Value → H} {P : Program} {w : World} {base : Nat} {spare : Nat → Bool} {held : Bool}
theorem open_six {r : Reach} {b0 : Nat} {t : TypeId} {fs : Array Field} {v : Value} {d : DataW H} {p : List MemPlace} (hs : P.underlying t = some (.struct fs)) (h6 : fs.size = 6) (hC : P.cellsOf t = 6)
    (hf : ∀ (i : Nat) (f : Field), fs[i]? = some f → f.offset = i ∧ P.underlying f.type = some (.int .i64) ∧ P.cellsOf f.type = 1)
    (hv : Value.okWide P w r b0 t v) (h : DataW.Trod enc P w base spare held t v d p) : ∃ a0 a1 a2 a3 a4 a5 : Int, v = .agg #[.int .i64 a0, .int .i64 a1, .int .i64 a2, .int .i64 a3, .int .i64 a4, .int .i64 a5] := by
  obtain ⟨cs, rfl, hsz⟩ := okWide_struct hs hv
  obtain ⟨fuel, h1⟩ := h
  obtain ⟨ns, hn, hc⟩ := trod_fields hs (by omega) hf h1
  have hc' : cs.toList = I64 ns := by simpa [Value.cells] using hc
  match ns, hn with
  | [a0, a1, a2, a3, a4, a5], _ =>
    refine ⟨a0, a1, a2, a3, a4, a5, ?_⟩
    congr 1
    apply Array.toList_inj.1
    rw [hc']; rfl
  | [], hn => simp [h6] at hn
  | [_], hn => simp [h6] at hn
  | [_, _], hn => simp [h6] at hn
  | [_, _, _], hn => simp [h6] at hn
  | [_, _, _, _], hn => simp [h6] at hn
  | [_, _, _, _, _], hn => simp [h6] at hn
  | _ :: _ :: _ :: _ :: _ :: _ :: _ :: _, hn => simp [h6] at hn
end
end Go.Proofs.YtigefmobejclaaaDoor

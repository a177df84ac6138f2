/- ParseStmt as a function of the line. -/
import Derived.Test.YtigefmobejclaaaDoorPim
namespace Go.Proofs.YtigefmobejclaaaDoor
open Go.RowKit
set_option linter.unusedVariables false

theorem fmtS_inj {s s' : St} (h : stOk s = true) (h' : stOk s' = true) (e : fmtS s = fmtS s') : s = s' := by
  obtain ⟨p0, ts, hpt⟩ : ∃ p0 ts, spl 32 (fmtS s') = p0 :: ts := ⟨_, _, spl_fmtS s'⟩
  have a := (cand_of hpt h e).2.2
  have b := (cand_of hpt h' rfl).2.2
  rw [← a, ← b]
open Classical in
/-- What ParseStmt answers at a line. -/
noncomputable def pst (l : Bs) : St × Bool := if h : ∃ s, stOk s = true ∧ fmtS s = l then (h.choose, true) else (⟨0, 0, 0, 0, 0, 0⟩, false)
theorem pst_of {l : Bs} {s : St} {b : Bool} (h : PS l s b) : pst l = (s, b) := by
  unfold pst
  rcases h with ⟨rfl, h1, h2⟩ | ⟨rfl, rfl, h3⟩
  · have hx : ∃ s, stOk s = true ∧ fmtS s = l := ⟨s, h1, h2⟩
    rw [dif_pos hx]
    have := hx.choose_spec
    rw [fmtS_inj this.1 h1 (this.2.trans h2.symm)]
  · rw [dif_neg]
    rintro ⟨s, h1, h2⟩
    exact h3 s h1 h2
theorem pst_fmtS {s : St} (h : stOk s = true) : pst (fmtS s) = (s, true) := pst_of (.inl ⟨rfl, h, rfl⟩)
theorem pst_true {l : Bs} (h : (pst l).2 = true) : stOk (pst l).1 = true ∧ fmtS (pst l).1 = l := by
  unfold pst at h ⊢
  split
  · next hx => exact hx.choose_spec
  · next hx => rw [dif_neg hx] at h; cases h
theorem IsPst.eq {l : Bs} {e : Ending} (h : IsPst l e) : e = .returned (.tuple #[stV (pst l).1, .bool (pst l).2]) := by
  obtain ⟨s, b, rfl, hp⟩ := h
  rw [pst_of hp]
theorem sPst_any (l : Bs) (hs : l.length ≤ 1048576) (w : World) :
    Calls Tryd.prog 16 #[.string (bA l)] w fun e w' => e = .returned (.tuple #[stV (pst l).1, .bool (pst l).2]) ∧ Below w.heap.size w w' :=
  (sParseStmt_any l hs w).mono fun _ _ h => ⟨h.1.eq, h.2⟩
theorem iPst_any (l : Bs) (hs : l.length ≤ 1048576) (w : World) (hw : Laid w) :
    Calls Tryd.prog 17 #[.string (bA l)] w fun e w' => e = .returned (.tuple #[stV (pst l).1, .bool (pst l).2]) ∧ Below w.heap.size w w' :=
  (iParseStmt_any l hs w hw).mono fun _ _ h => ⟨h.1.eq, h.2⟩
end Go.Proofs.YtigefmobejclaaaDoor

/- FormatStmt at every statement. -/
import Derived.Test.YtigefmobejclaaaDoorFmtC
namespace Go.Proofs.YtigefmobejclaaaDoor
open Go.RowKit
set_option linter.unusedVariables false

/-- What FormatStmt hands back. -/
def fmtO (s : St) : Bs := if stOk s = true then fmtS s else []
theorem fmtO_ok {s : St} (h : stOk s = true) : fmtO s = fmtS s := by simp [fmtO, h]

theorem sFormatStmt_any (s : St) (w : World) :
    Calls Tryd.prog 8 #[stV s] w fun e w' => e = .returned (.tuple #[.string (bA (fmtO s)), .bool (stOk s)]) ∧ Below w.heap.size w w' := by
  cases hok : stOk s
  case false =>
    have : fmtO s = [] := by simp [fmtO, hok]
    rw [this]
    exact sFormat_bad s hok w
  have hf : fmtO s = fmtS s := by simp [fmtO, hok]
  rw [hf]
  obtain ⟨h1, h2⟩ := stok_op hok
  by_cases e1 : s.op = 1
  · obtain ⟨e, a1, a2, a3, a4⟩ := ok1 hok e1
    rw [e] at hok ⊢
    exact sFormat_const _ _ hok a1 a2 a3 a4 w
  by_cases e2 : s.op = 2
  · obtain ⟨e, a1, a2, a3, a4, a5, a6⟩ := ok2 hok e2
    rw [e] at hok ⊢
    exact sFormat_input _ _ _ hok a1 a2 a3 a4 a5 a6 w
  by_cases e10 : s.op = 10
  · obtain ⟨e, a1, a2, a3, a4, a5, a6, a7, a8⟩ := ok10 hok e10
    rw [e] at hok ⊢
    exact sFormat_mux _ _ _ _ hok a1 a2 a3 a4 a5 a6 a7 a8 w
  by_cases e11 : s.op = 11
  · obtain ⟨e, a1, a2⟩ := ok11 hok e11
    rw [e] at hok ⊢
    exact sFormat_out _ hok a1 a2 w
  by_cases e12 : s.op = 12
  · obtain ⟨e, a1, a2⟩ := ok12 hok e12
    rw [e] at hok ⊢
    exact sFormat_loop _ hok a1 a2 w
  by_cases e13 : s.op = 13
  · have e := ok13 hok e13
    rw [e] at hok ⊢
    exact sFormat_end hok w
  obtain ⟨e, a1, a2, a3, a4, a5, a6⟩ := ok39 hok (by omega) (by omega)
  rw [e] at hok ⊢
  exact sFormat_bin _ _ _ _ hok a1 a2 a3 a4 a5 a6 (by show 3 ≤ s.op; omega) (by show s.op ≤ 9; omega) w

theorem iFormatStmt_any (s : St) (w : World) (hw : LaidW w) :
    Calls Tryd.prog 10 #[stV s] w fun e w' => e = .returned (.tuple #[.string (bA (fmtO s)), .bool (stOk s)]) ∧ Below w.heap.size w w' := by
  cases hok : stOk s
  case false =>
    have : fmtO s = [] := by simp [fmtO, hok]
    rw [this]
    exact iFormat_bad s hok w
  have hf : fmtO s = fmtS s := by simp [fmtO, hok]
  rw [hf]
  obtain ⟨h1, h2⟩ := stok_op hok
  by_cases e1 : s.op = 1
  · obtain ⟨e, a1, a2, a3, a4⟩ := ok1 hok e1
    rw [e] at hok ⊢
    exact iFormat_const _ _ hok a1 a2 a3 a4 w hw
  by_cases e2 : s.op = 2
  · obtain ⟨e, a1, a2, a3, a4, a5, a6⟩ := ok2 hok e2
    rw [e] at hok ⊢
    exact iFormat_input _ _ _ hok a1 a2 a3 a4 a5 a6 w hw
  by_cases e10 : s.op = 10
  · obtain ⟨e, a1, a2, a3, a4, a5, a6, a7, a8⟩ := ok10 hok e10
    rw [e] at hok ⊢
    exact iFormat_mux _ _ _ _ hok a1 a2 a3 a4 a5 a6 a7 a8 w hw
  by_cases e11 : s.op = 11
  · obtain ⟨e, a1, a2⟩ := ok11 hok e11
    rw [e] at hok ⊢
    exact iFormat_out _ hok a1 a2 w hw
  by_cases e12 : s.op = 12
  · obtain ⟨e, a1, a2⟩ := ok12 hok e12
    rw [e] at hok ⊢
    exact iFormat_loop _ hok a1 a2 w hw
  by_cases e13 : s.op = 13
  · have e := ok13 hok e13
    rw [e] at hok ⊢
    exact iFormat_end hok w hw
  obtain ⟨e, a1, a2, a3, a4, a5, a6⟩ := ok39 hok (by omega) (by omega)
  obtain ⟨k, hk⟩ := Int.eq_ofNat_of_zero_le (show 0 ≤ s.op by omega)
  rw [hk] at e
  rw [e] at hok ⊢
  exact iFormat_bin k _ _ _ hok a1 a2 a3 a4 a5 a6 (by omega) (by omega) w hw
end Go.Proofs.YtigefmobejclaaaDoor

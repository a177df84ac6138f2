/- ReadsOf, WritesOf, isPlain. -/
import Derived.Test.YtigefmobejclaaaDoorStmtC
import Derived.Test.YtigefmobejclaaaDoorSStmtC
import Derived.Test.YtigefmobejclaaaDoorApp
namespace Go.Proofs.YtigefmobejclaaaDoor
open Go.RowKit
set_option linter.unusedVariables false
set_option linter.unusedSimpArgs false

def readsOf (s : St) : List Int := if stOk s then (if inB s.op 3 9 then [s.a, s.b] else if s.op = 10 then [s.a, s.b, s.c] else if s.op = 11 then [s.a] else []) else []
def writesOf (s : St) : Int := if stOk s && decide (s.op ≤ 10) then s.dst else -1
def plainB (s : St) : Bool := stOk s && decide (s.op ≤ 11)
theorem stok_regs {s : St} (h : stOk s = true) : 1 ≤ s.op ∧ s.op ≤ 13 ∧ 0 ≤ s.dst ∧ s.dst ≤ 7 ∧ 0 ≤ s.a ∧ s.a ≤ 7 ∧ 0 ≤ s.b ∧ s.b ≤ 7 ∧ 0 ≤ s.c ∧ s.c ≤ 7 := by
  obtain ⟨op, dst, a, b, c, n⟩ := s
  simp only [stOk] at h
  by_cases p1 : op = 1
  · simp [p1, inB] at h; simp; omega
  by_cases p2 : op = 2
  · simp [p2, inB] at h; simp; omega
  cases hop : inB op 3 9
  case true =>
    have hh := inB_iff.1 hop
    simp only [p1, p2, hop, if_false, if_true] at h
    simp [inB] at h
    simp; omega
  by_cases p10 : op = 10
  · simp [p10, inB] at h; simp; omega
  by_cases p11 : op = 11
  · simp [p11, inB] at h; simp; omega
  by_cases p12 : op = 12
  · simp [p12, inB] at h; simp; omega
  simp [p1, p2, hop, p10, p11, p12] at h
  simp; omega
theorem reads_regs {s : St} : ∀ r ∈ readsOf s, 0 ≤ r ∧ r ≤ 7 := by
  intro r hr
  unfold readsOf at hr
  split at hr
  case isFalse => cases hr
  case isTrue h =>
    have hh := stok_regs h
    split at hr
    · simp at hr; rcases hr with rfl | rfl <;> omega
    · split at hr
      · simp at hr; rcases hr with rfl | rfl | rfl <;> omega
      · split at hr
        · simp at hr; subst hr; omega
        · cases hr
theorem reads_len (s : St) : (readsOf s).length ≤ 3 := by
  unfold readsOf; repeat' split
  all_goals simp

end Go.Proofs.YtigefmobejclaaaDoor

/- What the fields of a written statement say: plain, no program text in sight. -/
import Derived.Test.YtigefmobejclaaaDoorSpl
import Derived.Test.YtigefmobejclaaaDoorParB
namespace Go.Proofs.YtigefmobejclaaaDoor
set_option linter.unusedVariables false

/-- The five fields, as far as a written statement has them. -/
def Fld5 (l z0 y1 y2 y3 y4 : Bs) : Prop := ∀ s, stOk s = true → fmtS s = l → ∃ r, [z0, y1, y2, y3, y4] = (wordB s.op :: argsF s) ++ r

theorem Fld5.op {l z0 y1 y2 y3 y4 : Bs} (h : Fld5 l z0 y1 y2 y3 y4) {s : St} (hs : stOk s = true) (e : fmtS s = l) {k : Int} (h1 : 1 ≤ k) (h2 : k ≤ 13) (hz : z0 = wordB k) : s.op = k := by
  obtain ⟨r, hr⟩ := h s hs e
  simp only [List.cons_append, List.cons.injEq] at hr
  have hk := congrArg opOf (hz.symm.trans hr.1)
  obtain ⟨g1, g2⟩ := stok_op hs
  rw [opOf_word h1 h2, opOf_word g1 g2] at hk
  exact hk.symm
theorem Fld5.word {l z0 y1 y2 y3 y4 : Bs} (h : Fld5 l z0 y1 y2 y3 y4) {s : St} (hs : stOk s = true) (e : fmtS s = l) : z0 = wordB s.op := by
  obtain ⟨r, hr⟩ := h s hs e
  simp only [List.cons_append, List.cons.injEq] at hr
  exact hr.1
theorem Fld5.args {l z0 y1 y2 y3 y4 : Bs} (h : Fld5 l z0 y1 y2 y3 y4) {s : St} (hs : stOk s = true) (e : fmtS s = l) : ∃ r, [y1, y2, y3, y4] = argsF s ++ r := by
  obtain ⟨r, hr⟩ := h s hs e
  simp only [List.cons_append, List.cons.injEq] at hr
  exact ⟨r, hr.2⟩

theorem num_r {n : Int} (h0 : 0 ≤ n) (h1 : n < 16) : numF [114] (114 :: dig n) = n := numF_dig (pre := [114]) h0 (by omega)
theorem num_p {n : Int} (h0 : 0 ≤ n) (h1 : n < 16) : numF [112] (112 :: dig n) = n := numF_dig (pre := [112]) h0 (by omega)
theorem num_n {n : Int} (h0 : 0 ≤ n) (h1 : n < 16) : numF [] (dig n) = n := numF_dig (pre := []) h0 (by omega)

section
variable {l z0 y1 y2 y3 y4 : Bs} (h : Fld5 l z0 y1 y2 y3 y4) {s : St} (hs : stOk s = true) (e : fmtS s = l)
include h hs e
theorem Fld5.k1 (hz : z0 = wordB 1) : s = ⟨1, numF [114] y1, 0, 0, 0, numF [] y2⟩ := by
  have ho := h.op hs e (by omega) (by omega) hz
  obtain ⟨r, hr⟩ := h.args hs e
  rw [args_op1 ho] at hr
  simp only [List.cons_append, List.nil_append, List.cons.injEq] at hr
  obtain ⟨e1, a1, a2, a3, a4⟩ := ok1 hs ho
  rw [hr.1, hr.2.1, num_r a1 a2, num_n a3 a4]
  exact e1
theorem Fld5.k2 (hz : z0 = wordB 2) : s = ⟨2, numF [114] y1, numF [112] y2, 0, 0, numF [] y3⟩ := by
  have ho := h.op hs e (by omega) (by omega) hz
  obtain ⟨r, hr⟩ := h.args hs e
  rw [args_op2 ho] at hr
  simp only [List.cons_append, List.nil_append, List.cons.injEq] at hr
  obtain ⟨e1, a1, a2, a3, a4, a5, a6⟩ := ok2 hs ho
  rw [hr.1, hr.2.1, hr.2.2.1, num_r a1 a2, num_p a3 a4, num_n a5 a6]
  exact e1
theorem Fld5.k39 {k : Int} (h3 : 3 ≤ k) (h9 : k ≤ 9) (hz : z0 = wordB k) : s = ⟨k, numF [114] y1, numF [114] y2, numF [114] y3, 0, 0⟩ := by
  have ho := h.op hs e (by omega) (by omega) hz
  obtain ⟨r, hr⟩ := h.args hs e
  rw [args_op39 (by omega) (by omega)] at hr
  simp only [List.cons_append, List.nil_append, List.cons.injEq] at hr
  obtain ⟨e1, a1, a2, a3, a4, a5, a6⟩ := ok39 hs (by omega) (by omega)
  rw [hr.1, hr.2.1, hr.2.2.1, num_r a1 a2, num_r a3 a4, num_r a5 a6, ← ho]
  exact e1
theorem Fld5.k10 (hz : z0 = wordB 10) : s = ⟨10, numF [114] y1, numF [114] y2, numF [114] y3, numF [114] y4, 0⟩ := by
  have ho := h.op hs e (by omega) (by omega) hz
  obtain ⟨r, hr⟩ := h.args hs e
  rw [args_op10 ho] at hr
  simp only [List.cons_append, List.nil_append, List.cons.injEq] at hr
  obtain ⟨e1, a1, a2, a3, a4, a5, a6, a7, a8⟩ := ok10 hs ho
  rw [hr.1, hr.2.1, hr.2.2.1, hr.2.2.2.1, num_r a1 a2, num_r a3 a4, num_r a5 a6, num_r a7 a8]
  exact e1
theorem Fld5.k11 (hz : z0 = wordB 11) : s = ⟨11, 0, numF [114] y1, 0, 0, 0⟩ := by
  have ho := h.op hs e (by omega) (by omega) hz
  obtain ⟨r, hr⟩ := h.args hs e
  rw [args_op11 ho] at hr
  simp only [List.cons_append, List.nil_append, List.cons.injEq] at hr
  obtain ⟨e1, a1, a2⟩ := ok11 hs ho
  rw [hr.1, num_r a1 a2]
  exact e1
theorem Fld5.k12 (hz : z0 = wordB 12) : s = ⟨12, 0, 0, 0, 0, numF [] y1⟩ := by
  have ho := h.op hs e (by omega) (by omega) hz
  obtain ⟨r, hr⟩ := h.args hs e
  rw [args_op12 ho] at hr
  simp only [List.cons_append, List.nil_append, List.cons.injEq] at hr
  obtain ⟨e1, a1, a2⟩ := ok12 hs ho
  rw [hr.1, num_n a1 a2]
  exact e1
theorem Fld5.k13 (hz : z0 = wordB 13) : s = ⟨13, 0, 0, 0, 0, 0⟩ := ok13 hs (h.op hs e (by omega) (by omega) hz)
end

/-- Nothing but the seven operations is left where no word fits. -/
theorem Fld5.none {l z0 y1 y2 y3 y4 : Bs} (h : Fld5 l z0 y1 y2 y3 y4) (p1 : ¬ z0 = wordB 1) (p2 : ¬ z0 = wordB 2) (p10 : ¬ z0 = wordB 10) (p11 : ¬ z0 = wordB 11) (p12 : ¬ z0 = wordB 12) (p13 : ¬ z0 = wordB 13)
    {s : St} (hs : stOk s = true) (e : fmtS s = l) : 3 ≤ s.op ∧ s.op ≤ 9 := by
  have hw := h.word hs e
  obtain ⟨g1, g2⟩ := stok_op hs
  have : s.op = 1 ∨ s.op = 2 ∨ s.op = 10 ∨ s.op = 11 ∨ s.op = 12 ∨ s.op = 13 ∨ (3 ≤ s.op ∧ s.op ≤ 9) := by omega
  rcases this with e1 | e1 | e1 | e1 | e1 | e1 | e1
  · rw [e1] at hw; exact absurd hw p1
  · rw [e1] at hw; exact absurd hw p2
  · rw [e1] at hw; exact absurd hw p10
  · rw [e1] at hw; exact absurd hw p11
  · rw [e1] at hw; exact absurd hw p12
  · rw [e1] at hw; exact absurd hw p13
  · exact e1
end Go.Proofs.YtigefmobejclaaaDoor

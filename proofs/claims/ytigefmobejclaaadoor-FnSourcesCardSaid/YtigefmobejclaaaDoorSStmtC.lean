/- The spec's StmtOk answers stOk. -/
import Derived.Test.YtigefmobejclaaaDoorSStmtB
namespace Go.Proofs.YtigefmobejclaaaDoor
open Go.RowKit

theorem stOk_alt (s : St) : stOk s = (eqS s (plainS s) && regsS s && lastS s) := by
  obtain ⟨op, dst, a, b, c, n⟩ := s
  rw [Bool.eq_iff_iff]
  by_cases p1 : op = 1
  · subst p1; simp [stOk, eqS, plainS, regsS, lastS, inB]; omega
  by_cases p2 : op = 2
  · subst p2; simp [stOk, eqS, plainS, regsS, lastS, inB]; omega
  cases hop : inB op 3 9
  case true =>
    have hh := inB_iff.1 hop
    simp [stOk, eqS, plainS, regsS, lastS, hop, p1, p2, show ¬ op = 12 from (by omega)]; simp [inB]; omega
  by_cases p10 : op = 10
  · subst p10; simp [stOk, eqS, plainS, regsS, lastS, inB]; try omega
  by_cases p11 : op = 11
  · subst p11; simp [stOk, eqS, plainS, regsS, lastS, inB]; try omega
  by_cases p12 : op = 12
  · subst p12; simp [stOk, eqS, plainS, regsS, lastS, inB]; omega
  have hh := inB_false.1 hop
  simp [stOk, eqS, plainS, regsS, lastS, hop, p1, p2, p10, p11, p12]; simp [inB]; omega

theorem sStmtOk_any (s : St) (w : World) :
    Calls Tryd.prog 27 #[stV s] w fun e w' => e = .returned (.bool (stOk s)) ∧ Below w.heap.size w w' := by
  rw [stOk_alt]
  obtain ⟨sop, sdst, sa, sb, sc, sn⟩ := s
  obtain ⟨t, ht⟩ : ∃ t, plainS ⟨sop, sdst, sa, sb, sc, sn⟩ = t := ⟨_, rfl⟩
  obtain ⟨op, dst, a, b, c, n⟩ := t
  rw [ht]
  have fin : ∀ {v : Bool}, v = (eqS ⟨sop, sdst, sa, sb, sc, sn⟩ ⟨op, dst, a, b, c, n⟩ && regsS ⟨sop, sdst, sa, sb, sc, sn⟩ && lastS ⟨sop, sdst, sa, sb, sc, sn⟩) →
      (Calls Tryd.prog 27 #[stV ⟨sop, sdst, sa, sb, sc, sn⟩] w fun e w' => e = .returned (.bool v) ∧ Below w.heap.size w w') →
      (Calls Tryd.prog 27 #[stV ⟨sop, sdst, sa, sb, sc, sn⟩] w fun e w' => e = .returned (.bool (eqS ⟨sop, sdst, sa, sb, sc, sn⟩ ⟨op, dst, a, b, c, n⟩ && regsS ⟨sop, sdst, sa, sb, sc, sn⟩ && lastS ⟨sop, sdst, sa, sb, sc, sn⟩)) ∧ Below w.heap.size w w') := fun h c => by rw [← h]; exact c
  cases d0 : (sop == op)
  · exact fin (by simp [eqS, d0]) (sStmtOk_ne0 sop sdst sa sb sc sn op dst a b c n ht d0 w)
  obtain rfl : sop = op := by simpa using d0
  cases d1 : (sdst == dst)
  · exact fin (by simp [eqS, d1]) (sStmtOk_ne1 sop sdst sa sb sc sn dst a b c n ht d1 w)
  obtain rfl : sdst = dst := by simpa using d1
  cases d2 : (sa == a)
  · exact fin (by simp [eqS, d2]) (sStmtOk_ne2 sop sdst sa sb sc sn a b c n ht d2 w)
  obtain rfl : sa = a := by simpa using d2
  cases d3 : (sb == b)
  · exact fin (by simp [eqS, d3]) (sStmtOk_ne3 sop sdst sa sb sc sn b c n ht d3 w)
  obtain rfl : sb = b := by simpa using d3
  cases d4 : (sc == c)
  · exact fin (by simp [eqS, d4]) (sStmtOk_ne4 sop sdst sa sb sc sn c n ht d4 w)
  obtain rfl : sc = c := by simpa using d4
  cases d5 : (sn == n)
  · exact fin (by simp [eqS, d5]) (sStmtOk_ne5 sop sdst sa sb sc sn n ht d5 w)
  obtain rfl : sn = n := by simpa using d5
  cases t0 : inB sdst 0 7
  · exact fin (by simp [regsS, t0]) (sStmtOk_eq0 sop sdst sa sb sc sn ht t0 w)
  cases t1 : inB sa 0 7
  · exact fin (by simp [regsS, t1]) (sStmtOk_eq1 sop sdst sa sb sc sn ht t0 t1 w)
  cases t2 : inB sb 0 7
  · exact fin (by simp [regsS, t2]) (sStmtOk_eq2 sop sdst sa sb sc sn ht t0 t1 t2 w)
  cases t3 : inB sc 0 7
  · exact fin (by simp [regsS, t3]) (sStmtOk_eq3 sop sdst sa sb sc sn ht t0 t1 t2 t3 w)
  refine fin (v := lastS ⟨sop, sdst, sa, sb, sc, sn⟩) (by simp [eqS, regsS, t0, t1, t2, t3]) ?_
  by_cases p1 : sop = 1
  · subst p1; exact sStmtOk_c1 sdst sa sb sc sn ht t0 t1 t2 t3 w
  by_cases p2 : sop = 2
  · subst p2
    by_cases h5 : sa < 5
    · exact sStmtOk_c2a sdst sa sb sc sn ht t0 t1 t2 t3 h5 w
    · exact sStmtOk_c2b sdst sa sb sc sn ht t0 t1 t2 t3 h5 w
  by_cases p12 : sop = 12
  · subst p12; exact sStmtOk_c12 sdst sa sb sc sn ht t0 t1 t2 t3 w
  exact sStmtOk_celse sop sdst sa sb sc sn ht t0 t1 t2 t3 p1 p2 p12 w
end Go.Proofs.YtigefmobejclaaaDoor

/- StepState, both. -/
import Derived.Test.YtfeffofoofmgcaaSStepA
import Derived.Test.YtfeffofoofmgcaaSStepB
import Derived.Test.YtfeffofoofmgcaaSStepC
import Derived.Test.YtfeffofoofmgcaaIStepA
import Derived.Test.YtfeffofoofmgcaaIStepB
import Derived.Test.YtfeffofoofmgcaaIStepC
namespace Go.Proofs.Ytfeffofoofmgcaa
open Go.RowKit
set_option linter.unusedVariables false

theorem sStepState_any (rs os : List Int) (a1 a2 : Option Addr) (c1 c2 : Nat) (s : St) (rr : List Rw) (ai : Option Addr) (ci : Nat) (w : World) (hm1 : rs.length ≤ 1048576) (hm2 : os.length ≤ 1048576) (hr1 : RdC w a1 (I64 rs)) (hr2 : RdC w a2 (I64 os)) (hmr : rr.length ≤ 1048576) (hml : rowsLe rr) (hri : RdR w ai rr) :
    Calls Try.prog 54 #[.agg #[.slice a1 rs.length c1, .slice a2 os.length c2], stV s, .slice ai rr.length ci] w fun e w' => ∃ g1 d1 g2 d2, e = .returned (.agg #[.slice (some ⟨g1, 0, none⟩) (stepRegs rs os s (rr.map Rw.xs)).length d1, .slice (some ⟨g2, 0, none⟩) (stepOuts rs os s (rr.map Rw.xs)).length d2]) ∧
      Own w' w.heap.size 3 1 (some ⟨g1, 0, none⟩) (stepRegs rs os s (rr.map Rw.xs)).length d1 (I64 (stepRegs rs os s (rr.map Rw.xs))) ∧ Own w' w.heap.size 3 1 (some ⟨g2, 0, none⟩) (stepOuts rs os s (rr.map Rw.xs)).length d2 (I64 (stepOuts rs os s (rr.map Rw.xs))) ∧ g1 ≠ g2 ∧ Below w.heap.size w w' := by
  obtain ⟨op, dst, a, b, c, n⟩ := s
  cases h1 : stateOk rs os
  · exact sStep_no1 rs os a1 a2 c1 c2 op dst a b c n rr ai ci w hm1 hm2 hr1 hr2 hmr hml hri h1
  cases hst : stOk ⟨op, dst, a, b, c, n⟩
  · exact sStep_no2 rs os a1 a2 c1 c2 op dst a b c n rr ai ci w hm1 hm2 hr1 hr2 hmr hml hri h1 hst
  by_cases h12 : 11 < op
  · exact sStep_no4 rs os a1 a2 c1 c2 op dst a b c n rr ai ci w hm1 hm2 hr1 hr2 hmr hml hri h1 hst h12
  have h2 : plainB ⟨op, dst, a, b, c, n⟩ = true := by simp [plainB, hst]; omega
  cases h3 : inputsOk (rr.map Rw.xs)
  · exact sStep_no3 rs os a1 a2 c1 c2 op dst a b c n rr ai ci w hm1 hm2 hr1 hr2 hmr hml hri h1 h2 h3
  by_cases p1 : op = 1
  · subst p1; exact sStep_const rs os a1 a2 c1 c2 dst a b c n rr ai ci w hm1 hm2 hr1 hr2 hmr hml hri h1 h2 h3
  by_cases p2 : op = 2
  · subst p2; exact sStep_input rs os a1 a2 c1 c2 dst a b c n rr ai ci w hm1 hm2 hr1 hr2 hmr hml hri h1 h2 h3
  by_cases p10 : op = 10
  · subst p10
    by_cases hb : bits .and .i64 (rgd rs a) 1 = 1
    · exact sStep_mux1 rs os a1 a2 c1 c2 dst a b c n rr ai ci w hm1 hm2 hr1 hr2 hmr hml hri h1 h2 h3 hb
    · exact sStep_mux0 rs os a1 a2 c1 c2 dst a b c n rr ai ci w hm1 hm2 hr1 hr2 hmr hml hri h1 h2 h3 hb
  by_cases p11 : op = 11
  · subst p11; exact sStep_out rs os a1 a2 c1 c2 dst a b c n rr ai ci w hm1 hm2 hr1 hr2 hmr hml hri h1 h2 h3
  exact sStep_def rs os a1 a2 c1 c2 op dst a b c n rr ai ci w hm1 hm2 hr1 hr2 hmr hml hri h1 h2 h3 p1 p2 p10 p11

theorem iStepState_any (rs os : List Int) (a1 a2 : Option Addr) (c1 c2 : Nat) (s : St) (rr : List Rw) (ai : Option Addr) (ci : Nat) (w : World) (hm1 : rs.length ≤ 1048576) (hm2 : os.length ≤ 1048576) (hr1 : RdC w a1 (I64 rs)) (hr2 : RdC w a2 (I64 os)) (hmr : rr.length ≤ 1048576) (hml : rowsLe rr) (hri : RdR w ai rr) :
    Calls Try.prog 57 #[.agg #[.slice a1 rs.length c1, .slice a2 os.length c2], stV s, .slice ai rr.length ci] w fun e w' => ∃ g1 d1 g2 d2, e = .returned (.agg #[.slice (some ⟨g1, 0, none⟩) (stepRegs rs os s (rr.map Rw.xs)).length d1, .slice (some ⟨g2, 0, none⟩) (stepOuts rs os s (rr.map Rw.xs)).length d2]) ∧
      Own w' w.heap.size 3 1 (some ⟨g1, 0, none⟩) (stepRegs rs os s (rr.map Rw.xs)).length d1 (I64 (stepRegs rs os s (rr.map Rw.xs))) ∧ Own w' w.heap.size 3 1 (some ⟨g2, 0, none⟩) (stepOuts rs os s (rr.map Rw.xs)).length d2 (I64 (stepOuts rs os s (rr.map Rw.xs))) ∧ g1 < g2 ∧ Below w.heap.size w w' := by
  obtain ⟨op, dst, a, b, c, n⟩ := s
  cases h1 : stateOk rs os
  · exact iStep_no1 rs os a1 a2 c1 c2 op dst a b c n rr ai ci w hm1 hm2 hr1 hr2 hmr hml hri h1
  cases h2 : plainB ⟨op, dst, a, b, c, n⟩
  · exact iStep_no2 rs os a1 a2 c1 c2 op dst a b c n rr ai ci w hm1 hm2 hr1 hr2 hmr hml hri h1 h2
  cases h3 : inputsOk (rr.map Rw.xs)
  · exact iStep_no3 rs os a1 a2 c1 c2 op dst a b c n rr ai ci w hm1 hm2 hr1 hr2 hmr hml hri h1 h2 h3
  by_cases p1 : op = 1
  · subst p1; exact iStep_const rs os a1 a2 c1 c2 dst a b c n rr ai ci w hm1 hm2 hr1 hr2 hmr hml hri h1 h2 h3
  by_cases p2 : op = 2
  · subst p2; exact iStep_input rs os a1 a2 c1 c2 dst a b c n rr ai ci w hm1 hm2 hr1 hr2 hmr hml hri h1 h2 h3
  by_cases p10 : op = 10
  · subst p10
    by_cases hb : bits .and .i64 (rgd rs a) 1 = 1
    · exact iStep_mux1 rs os a1 a2 c1 c2 dst a b c n rr ai ci w hm1 hm2 hr1 hr2 hmr hml hri h1 h2 h3 hb
    · exact iStep_mux0 rs os a1 a2 c1 c2 dst a b c n rr ai ci w hm1 hm2 hr1 hr2 hmr hml hri h1 h2 h3 hb
  by_cases p11 : op = 11
  · subst p11; exact iStep_out rs os a1 a2 c1 c2 dst a b c n rr ai ci w hm1 hm2 hr1 hr2 hmr hml hri h1 h2 h3
  exact iStep_def rs os a1 a2 c1 c2 op dst a b c n rr ai ci w hm1 hm2 hr1 hr2 hmr hml hri h1 h2 h3 p1 p2 p10 p11

end Go.Proofs.Ytfeffofoofmgcaa

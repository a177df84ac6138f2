/- FlowStep of the impl. -/
import Derived.Test.YtfeffofoofmgcaaIFlowA
import Derived.Test.YtfeffofoofmgcaaIFlowB
import Derived.Test.YtfeffofoofmgcaaIFlowD
namespace Go.Proofs.Ytfeffofoofmgcaa
open Go.RowKit
set_option linter.unusedVariables false
set_option linter.unusedSimpArgs false

theorem iFlowStep_any (rs os : List Int) (a1 a2 : Option Addr) (c1 c2 : Nat) (s : St) (w : World) (hm1 : rs.length ≤ 1048576) (hm2 : os.length ≤ 1048576) (hr1 : RdC w a1 (I64 rs)) (hr2 : RdC w a2 (I64 os)) :
    Calls Try.prog 34 #[.agg #[.slice a1 rs.length c1, .slice a2 os.length c2], stV s] w fun e w' => ∃ g1 d1 g2 d2, e = .returned (.agg #[.slice (some ⟨g1, 0, none⟩) (flowRegs rs s).length d1, .slice (some ⟨g2, 0, none⟩) (flowOuts rs os s).length d2]) ∧
      Own w' w.heap.size 3 1 (some ⟨g1, 0, none⟩) (flowRegs rs s).length d1 (I64 (flowRegs rs s)) ∧ Own w' w.heap.size 3 1 (some ⟨g2, 0, none⟩) (flowOuts rs os s).length d2 (I64 (flowOuts rs os s)) ∧ g1 < g2 ∧ Below w.heap.size w w' := by
  obtain ⟨op, dst, a, b, c, n⟩ := s
  cases hs : plainB ⟨op, dst, a, b, c, n⟩
  · exact iFlowStep_no1 rs os a1 a2 c1 c2 op dst a b c n hs w hm1 hm2 hr1 hr2
  have hp := hs
  simp [plainB] at hp
  by_cases h8 : rs.length = 8
  case neg => exact iFlowStep_no2 rs os a1 a2 c1 c2 op dst a b c n hs h8 w hm1 hm2 hr1 hr2
  by_cases p11 : op = 11
  · subst p11; exact iFlowStep_out rs os a1 a2 c1 c2 dst a b c n hs h8 w hm1 hm2 hr1 hr2
  by_cases p2 : op = 2
  · subst p2; exact iFlowStep_input rs os a1 a2 c1 c2 dst a b c n hs h8 w hm1 hm2 hr1 hr2
  exact iFlowStep_def rs os a1 a2 c1 c2 op dst a b c n hs h8 (by omega) p2 w hm1 hm2 hr1 hr2

end Go.Proofs.Ytfeffofoofmgcaa

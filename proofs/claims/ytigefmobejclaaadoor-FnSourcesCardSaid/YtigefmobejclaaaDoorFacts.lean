/- Closed facts on the whole program, which each law's frame takes. -/
import Derived.WalkKit
import Derived.ProofKit
import Derived.Test.YtigefmobejclaaaDoorChecked
namespace Go.Proofs.YtigefmobejclaaaDoor
def rowZero : OpenClaim := { program := "", sum := "", func := "", spec := "" }
theorem fact_enter : Tryd.prog.mayEnter = true := by kernel_rfl
theorem fact_lifts : Tryd.prog.liftsFinal = rowZero.lifted := by kernel_rfl
theorem fact_make : Tryd.prog.make = some rowZero.make := by kernel_rfl
end Go.Proofs.YtigefmobejclaaaDoor

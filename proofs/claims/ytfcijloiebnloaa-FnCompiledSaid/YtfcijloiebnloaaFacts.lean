/- Closed facts on the whole program, which each law's frame takes. -/
import Derived.WalkKit
import Derived.ProofKit
import Derived.Test.YtfcijloiebnloaaChecked
namespace Go.Proofs.Ytfcijloiebnloaa
def rowZero : OpenClaim := { program := "", sum := "", func := "", spec := "" }
theorem fact_enter : Try.prog.mayEnter = true := by kernel_rfl
theorem fact_lifts : Try.prog.liftsFinal = rowZero.lifted := by kernel_rfl
theorem fact_make : Try.prog.make = some rowZero.make := by kernel_rfl
end Go.Proofs.Ytfcijloiebnloaa

/- Closed facts on the whole program, for all rows. Conditions: none. -/
import Derived.WalkKit
import Derived.ProofKit
import Derived.OpenShut
import Derived.KernelRfl
import Derived.Test.YtonbpfncmlijnaaGreatChecked
import Derived.Test.YtonbpfncmlijnaaGreatRows
set_option linter.unusedVariables false
set_option maxRecDepth 4000
namespace Go.Proofs.YtonbpfncmlijnaaGreat
open Go.ChangeShapes Go.WideShapes Go.ChangeAt Go.RowKit
theorem laidOut_ok : laidOutB Tryz.prog = true := by kernel_rfl
theorem mapsRowed_ok : mapsRowed Tryz.prog = true := by kernel_rfl
theorem stopsHeard_ok : Tryz.prog.stopsHeard = true := by kernel_rfl
theorem mayEnter_ok : Tryz.prog.mayEnter = true := by kernel_rfl
theorem lifts_ok : Tryz.prog.liftsFinal = Rows.storeNamesRow.lifted := eq_of_beq (by kernel_rfl)
theorem make_ok : Tryz.prog.make = some Rows.storeNamesRow.make := eq_of_beq (by kernel_rfl)
end Go.Proofs.YtonbpfncmlijnaaGreat

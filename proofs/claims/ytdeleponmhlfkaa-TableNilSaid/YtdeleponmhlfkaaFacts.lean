/- Closed facts on the whole program, for all rows. Conditions: none. -/
import Derived.WalkKit
import Derived.ProofKit
import Derived.OpenShut
import Derived.KernelRfl
import Derived.Test.YtdeleponmhlfkaaChecked
import Derived.Test.YtdeleponmhlfkaaRows
set_option linter.unusedVariables false
set_option maxRecDepth 4000
namespace Go.Proofs.Ytdeleponmhlfkaa
open Go.ChangeShapes Go.WideShapes Go.ChangeAt Go.RowKit
theorem laidOut_ok : laidOutB Try.prog = true := by kernel_rfl
theorem mapsRowed_ok : mapsRowed Try.prog = true := by kernel_rfl
theorem stopsHeard_ok : Try.prog.stopsHeard = true := by kernel_rfl
theorem mayEnter_ok : Try.prog.mayEnter = true := by kernel_rfl
theorem lifts_ok : Try.prog.liftsFinal = Rows.tableNamesRow.lifted := eq_of_beq (by kernel_rfl)
theorem make_ok : Try.prog.make = some Rows.tableNamesRow.make := eq_of_beq (by kernel_rfl)
end Go.Proofs.Ytdeleponmhlfkaa

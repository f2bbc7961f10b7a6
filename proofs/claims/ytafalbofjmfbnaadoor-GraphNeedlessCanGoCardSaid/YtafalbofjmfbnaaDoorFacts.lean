/-
  Closed facts of the program that each row of this seat asks. No condition.
-/
import Derived.Test.YtafalbofjmfbnaaDoorRows
import Derived.ProofKit
import Derived.OpenShut
set_option maxRecDepth 100000
set_option maxHeartbeats 4000000
namespace Go.Proofs.YtafalbofjmfbnaaDoor
open Go Go.RowKit
theorem e_make : Tryd.prog.make = some Rows.graphOrdersStandRow.make := by kernel_rfl
theorem e_lifted : Tryd.prog.liftsFinal = Rows.graphOrdersStandRow.lifted := by kernel_rfl
theorem e_may : Tryd.prog.mayEnter = true := by kernel_rfl
end Go.Proofs.YtafalbofjmfbnaaDoor

/-
  Closed facts of the program that each row of this seat asks. No condition.
-/
import Derived.Test.YtahlodpolggeiaaDoorRows
import Derived.ProofKit
import Derived.OpenShut
set_option maxRecDepth 100000
set_option maxHeartbeats 4000000
namespace Go.Proofs.YtahlodpolggeiaaDoor
open Go Go.RowKit
theorem e_make : Tryd.prog.make = some Rows.trustWritersMatchSpecUptoRow.make := by kernel_rfl
theorem e_lifted : Tryd.prog.liftsFinal = Rows.trustWritersMatchSpecUptoRow.lifted := by kernel_rfl
theorem e_may : Tryd.prog.mayEnter = true := by kernel_rfl
end Go.Proofs.YtahlodpolggeiaaDoor

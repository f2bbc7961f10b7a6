/-
  A closed fact of the program that each row of this seat asks. No condition.
-/
import Derived.Test.YtahlodpolggeiaaGreatDoorRows
import Derived.ProofKit
import Derived.OpenShut
set_option maxRecDepth 100000
set_option maxHeartbeats 4000000
namespace Go.Proofs.YtahlodpolggeiaaGreatDoor
open Go Go.RowKit
theorem e_may : Tryz.prog.mayEnter = true := by kernel_rfl
end Go.Proofs.YtahlodpolggeiaaGreatDoor

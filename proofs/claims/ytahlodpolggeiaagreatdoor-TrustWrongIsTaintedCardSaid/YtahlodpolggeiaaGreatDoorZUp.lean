/-
  The engine at smaller bounds, and the weights of small data. No condition.
-/
import Derived.Test.YtahlodpolggeiaaGreatDoorZPlain
import Derived.LaidSub
import Derived.Lib.LaidTab
import Derived.Test.YtahlodpolggeiaaGreatDoorCards
import Derived.Test.YtahlodpolggeiaaGreatDoorTie
import Derived.ProofKit
import Derived.LaidMore
import Derived.Lay
import Derived.OpenShut
import Derived.SevenTiedAt
import Derived.Stop.Joined
import Derived.JoinedCond
import Derived.Deep.DeepHandedRow
set_option linter.unusedVariables false
set_option linter.unusedSimpArgs false
set_option maxRecDepth 100000
set_option maxHeartbeats 4000000
namespace Go.Proofs.YtahlodpolggeiaaGreatDoor
open Go Go.RowKit Go.ChangeShapes Go.WideShapes Go.ChangeAt Go.Proofs.YtahlodpolggeiaaGreatDoor.Eng
theorem own : ownKnob Tryz.prog.godebug = none := by kernel_rfl
theorem laidOut : laidOutB Tryz.prog = true := by kernel_rfl
end Go.Proofs.YtahlodpolggeiaaGreatDoor

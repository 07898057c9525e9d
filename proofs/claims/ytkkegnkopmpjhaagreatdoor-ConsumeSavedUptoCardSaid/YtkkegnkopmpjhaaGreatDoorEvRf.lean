/- The law Saved: closed facts of its row. -/
import Derived.Test.YtkkegnkopmpjhaaGreatDoorEvR
import Derived.Test.YtkkegnkopmpjhaaGreatDoorRows
import Derived.WalkKit
import Derived.ProofKit
import Derived.Deep.DeepHandedRow
section
set_option linter.unusedVariables false
set_option linter.unusedSimpArgs false
set_option linter.defProp false
set_option linter.all false
namespace Go.Ev.C
open Go.Proofs Go.RowKit Go.ChangeShapes Go.WideShapes
open Go.Proofs.YtkkegnkopmpjhaaGreatDoor
set_option maxRecDepth 100000
theorem fk24 : (P6.stopsHeard) = true := by kernel_rfl
theorem fk25 : (P6.mayEnter) = true := by kernel_rfl
theorem fk26 : ((c6r.lifted == P6.liftsFinal)) = true := by kernel_rfl
theorem fk27 : ((P6.make == some c6r.make)) = true := by kernel_rfl
end Go.Ev.C
end

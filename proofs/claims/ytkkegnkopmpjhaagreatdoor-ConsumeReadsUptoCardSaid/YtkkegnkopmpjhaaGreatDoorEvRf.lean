/- The law Reads: closed facts of its row. -/
import Derived.Test.YtkkegnkopmpjhaaGreatDoorEvR
import Derived.Test.YtkkegnkopmpjhaaGreatDoorRows
import Derived.WalkKit
import Derived.ProofKit
import Derived.Deep.DeepHandedRow
set_option linter.unusedVariables false
set_option linter.unusedSimpArgs false
set_option linter.all false
section
namespace Go.Ev.C
open Go.Proofs Go.RowKit Go.ChangeShapes Go.WideShapes
open Go.Proofs.YtkkegnkopmpjhaaGreatDoor
set_option maxRecDepth 100000
theorem fk24:(P4.stopsHeard) = true:=by kernel_rfl
theorem fk25:(P4.mayEnter) = true:=by kernel_rfl
theorem fk26:((c4r.lifted == P4.liftsFinal)) = true:=by kernel_rfl
theorem fk27:((P4.make == some c4r.make)) = true:=by kernel_rfl
end Go.Ev.C
end
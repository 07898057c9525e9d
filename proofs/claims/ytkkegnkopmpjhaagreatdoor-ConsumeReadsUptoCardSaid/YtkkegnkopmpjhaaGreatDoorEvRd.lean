/- The law Reads: closed facts of its row. -/
import Derived.Test.YtkkegnkopmpjhaaGreatDoorEvR
import Derived.Test.YtkkegnkopmpjhaaGreatDoorRows
import Derived.WalkKit
import Derived.ProofKit
import Derived.Deep.DeepHandedRow
set_option linter.unusedVariables false
set_option linter.unusedSimpArgs false
set_option linter.all false
section
namespace Go.Ev.C
open Go.Proofs Go.RowKit Go.ChangeShapes Go.WideShapes
open Go.Proofs.YtkkegnkopmpjhaaGreatDoor
set_option maxRecDepth 100000
theorem fk12:((c4r.named == P4.varsNamed 4)) = true:=by kernel_rfl
end Go.Ev.C
end
/- The law Reads: closed facts of its card. -/
import Derived.Test.YtkkegnkopmpjhaaGreatDoorEvY
import Derived.Test.YtkkegnkopmpjhaaGreatDoorCards
import Derived.WalkKit
import Derived.ProofKit
import Derived.Deep.DeepHandedRow
set_option linter.unusedVariables false
set_option linter.unusedSimpArgs false
set_option linter.all false
section
namespace Go.Ev.C
open Go.Proofs Go.RowKit Go.ChangeShapes Go.WideShapes
open Go.Proofs.YtkkegnkopmpjhaaGreatDoor
set_option maxRecDepth 100000
theorem goes4:false = Rows.consumeReadsUptoRow.goesBy Tryz.pinned.checked.prog:=by kernel_rfl
end Go.Ev.C
end
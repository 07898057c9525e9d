/- The law Reads: closed facts of its row. -/
import Derived.Test.YtkkegnkopmpjhaaGreatDoorEvY
import Derived.Test.YtkkegnkopmpjhaaGreatDoorRows
import Derived.WalkKit
import Derived.ProofKit
import Derived.Deep.DeepHandedRow
set_option linter.unusedVariables false
set_option linter.unusedSimpArgs false
set_option linter.all false
section
namespace Go.Ev.C
open Go.Proofs Go.RowKit Go.ChangeShapes Go.WideShapes
open Go.Proofs.YtkkegnkopmpjhaaGreatDoor
set_option maxRecDepth 100000
noncomputable abbrev P4:Program:=Tryz.pinned.checked.prog
abbrev c4r:OpenClaim:=Rows.consumeReadsUptoRow
abbrev sp4:ChangeSpec:=(Rows.OpenSpec.upto Rows.consumeReadsSpec).bare
theorem W0 {a b:Bool} (h:a = true) (k:b = true):(a && b) = true:=by rw [h,k];rfl
end Go.Ev.C
end
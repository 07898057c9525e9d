/- The law Saved: closed facts of its card. -/
import Derived.Test.YtkkegnkopmpjhaaGreatDoorEvX
import Derived.Test.YtkkegnkopmpjhaaGreatDoorCards
import Derived.WalkKit
import Derived.ProofKit
import Derived.Deep.DeepHandedRow
section
set_option linter.unusedVariables false
set_option linter.unusedSimpArgs false
set_option linter.defProp false
set_option linter.all false
namespace Go.Ev.C
open Go.Proofs Go.RowKit Go.ChangeShapes Go.WideShapes
open Go.Proofs.YtkkegnkopmpjhaaGreatDoor
set_option maxRecDepth 100000
theorem own6 : ownKnob Tryz.prog.godebug = none := by kernel_rfl
theorem init6 : Tryz.checked.prog.inits.idxOf? 6 = none := by kernel_rfl
theorem text6 : Rows.consumeSavedUptoRow.wfByText (Rows.OpenSpec.upto Rows.consumeSavedSpec) = true := by kernel_rfl
theorem main6 : Tryz.pinned.checked.prog.mainIs = some (true, "4fbfc133f41f0a607b959f57b19cdaf155c9a27a4c284124dcb92c7e24358506".toList) := by kernel_rfl
theorem looks6 : true = Tryz.pinned.checked.prog.looks [] := by kernel_rfl
theorem stand36 : Tryz.pinned.checked.prog.wantsStandIn 36 = false := by kernel_rfl
theorem stand35 : Tryz.pinned.checked.prog.wantsStandIn 35 = false := by kernel_rfl
theorem stand3 : Tryz.pinned.checked.prog.wantsStandIn 3 = false := by kernel_rfl
end Go.Ev.C
end

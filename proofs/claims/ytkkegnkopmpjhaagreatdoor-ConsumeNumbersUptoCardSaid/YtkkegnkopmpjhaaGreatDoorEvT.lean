/- The law Numbers: closed facts of its card. -/
import Derived.Test.YtkkegnkopmpjhaaGreatDoorEvL
import Derived.Test.YtkkegnkopmpjhaaGreatDoorCards
import Derived.WalkKit
import Derived.ProofKit
import Derived.Deep.DeepHandedRow
section
set_option linter.unusedVariables false
set_option linter.unusedSimpArgs false
set_option linter.defProp false
set_option linter.all false
namespace Go.Ev.C
open Go.Proofs Go.RowKit Go.ChangeShapes Go.WideShapes
open Go.Proofs.YtkkegnkopmpjhaaGreatDoor
set_option maxRecDepth 100000
theorem own7 : ownKnob Tryz.prog.godebug = none := by kernel_rfl
theorem init7 : Tryz.checked.prog.inits.idxOf? 7 = none := by kernel_rfl
theorem text7 : Rows.consumeNumbersUptoRow.wfByText (Rows.OpenSpec.upto Rows.consumeNumbersSpec) = true := by kernel_rfl
theorem main7 : Tryz.pinned.checked.prog.mainIs = some (true, "4fbfc133f41f0a607b959f57b19cdaf155c9a27a4c284124dcb92c7e24358506".toList) := by kernel_rfl
theorem looks7 : true = Tryz.pinned.checked.prog.looks [] := by kernel_rfl
theorem stand64 : Tryz.pinned.checked.prog.wantsStandIn 64 = false := by kernel_rfl
theorem stand2 : Tryz.pinned.checked.prog.wantsStandIn 2 = false := by kernel_rfl
theorem stand5 : Tryz.pinned.checked.prog.wantsStandIn 5 = false := by kernel_rfl
theorem stand4 : Tryz.pinned.checked.prog.wantsStandIn 4 = false := by kernel_rfl
end Go.Ev.C
end

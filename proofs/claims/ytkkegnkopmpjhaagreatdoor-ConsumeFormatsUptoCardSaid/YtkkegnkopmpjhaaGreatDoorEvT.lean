/- The law Formats: closed facts of its card. -/
import Derived.Test.YtkkegnkopmpjhaaGreatDoorEvX
import Derived.Test.YtkkegnkopmpjhaaGreatDoorCards
import Derived.WalkKit
import Derived.ProofKit
import Derived.Deep.DeepHandedRow
section
set_option linter.unusedVariables false
set_option linter.unusedSimpArgs false
set_option linter.defProp false
set_option linter.all false
namespace Go.Ev.C
open Go.Proofs Go.RowKit Go.ChangeShapes Go.WideShapes
open Go.Proofs.YtkkegnkopmpjhaaGreatDoor
set_option maxRecDepth 100000
theorem own3 : ownKnob Tryz.prog.godebug = none := by kernel_rfl
theorem init3 : Tryz.checked.prog.inits.idxOf? 3 = none := by kernel_rfl
theorem text3 : Rows.consumeFormatsUptoRow.wfByText (Rows.OpenSpec.upto Rows.consumeFormatsSpec) = true := by kernel_rfl
theorem main3 : Tryz.pinned.checked.prog.mainIs = some (true, "4fbfc133f41f0a607b959f57b19cdaf155c9a27a4c284124dcb92c7e24358506".toList) := by kernel_rfl
theorem looks3 : true = Tryz.pinned.checked.prog.looks [] := by kernel_rfl
theorem stand9 : Tryz.pinned.checked.prog.wantsStandIn 9 = false := by kernel_rfl
theorem stand22 : Tryz.pinned.checked.prog.wantsStandIn 22 = false := by kernel_rfl
theorem stand23 : Tryz.pinned.checked.prog.wantsStandIn 23 = false := by kernel_rfl
theorem stand24 : Tryz.pinned.checked.prog.wantsStandIn 24 = false := by kernel_rfl
end Go.Ev.C
end

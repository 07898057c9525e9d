/- The law Joins: closed facts of its card. -/
import Derived.Test.YtkkegnkopmpjhaaGreatDoorEvG
import Derived.Test.YtkkegnkopmpjhaaGreatDoorCards
import Derived.WalkKit
import Derived.ProofKit
import Derived.Deep.DeepHandedRow
section
set_option linter.unusedVariables false
set_option linter.unusedSimpArgs false
set_option linter.defProp false
set_option linter.all false
namespace Go.Ev.C
open Go.Proofs Go.RowKit Go.ChangeShapes Go.WideShapes
open Go.Proofs.YtkkegnkopmpjhaaGreatDoor
set_option maxRecDepth 100000
theorem own5 : ownKnob Tryz.prog.godebug = none := by kernel_rfl
theorem init5 : Tryz.checked.prog.inits.idxOf? 5 = none := by kernel_rfl
theorem text5 : Rows.consumeJoinsUptoRow.wfByText (Rows.OpenSpec.upto Rows.consumeJoinsSpec) = true := by kernel_rfl
theorem main5 : Tryz.pinned.checked.prog.mainIs = some (true, "4fbfc133f41f0a607b959f57b19cdaf155c9a27a4c284124dcb92c7e24358506".toList) := by kernel_rfl
theorem looks5 : true = Tryz.pinned.checked.prog.looks [] := by kernel_rfl
theorem stand9 : Tryz.pinned.checked.prog.wantsStandIn 9 = false := by kernel_rfl
theorem stand22 : Tryz.pinned.checked.prog.wantsStandIn 22 = false := by kernel_rfl
end Go.Ev.C
end

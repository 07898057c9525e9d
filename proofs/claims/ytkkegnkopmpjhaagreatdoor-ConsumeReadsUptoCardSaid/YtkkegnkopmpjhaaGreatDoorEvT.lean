/- The law Reads: closed facts of its card. -/
import Derived.Test.YtkkegnkopmpjhaaGreatDoorEvY
import Derived.Test.YtkkegnkopmpjhaaGreatDoorCards
import Derived.WalkKit
import Derived.ProofKit
import Derived.Deep.DeepHandedRow
set_option linter.unusedVariables false
set_option linter.unusedSimpArgs false
set_option linter.all false
section
namespace Go.Ev.C
open Go.Proofs Go.RowKit Go.ChangeShapes Go.WideShapes
open Go.Proofs.YtkkegnkopmpjhaaGreatDoor
set_option maxRecDepth 100000
theorem own4:ownKnob Tryz.prog.godebug = none:=by kernel_rfl
theorem init4:Tryz.checked.prog.inits.idxOf? 4 = none:=by kernel_rfl
theorem text4:Rows.consumeReadsUptoRow.wfByText (Rows.OpenSpec.upto Rows.consumeReadsSpec) = true:=by kernel_rfl
theorem main4 : Tryz.pinned.checked.prog.mainIs = some (true, "4fbfc133f41f0a607b959f57b19cdaf155c9a27a4c284124dcb92c7e24358506".toList) := by kernel_rfl
theorem looks4:true = Tryz.pinned.checked.prog.looks []:=by kernel_rfl
theorem stand9:Tryz.pinned.checked.prog.wantsStandIn 9 = false:=by kernel_rfl
theorem stand35:Tryz.pinned.checked.prog.wantsStandIn 35 = false:=by kernel_rfl
theorem stand36:Tryz.pinned.checked.prog.wantsStandIn 36 = false:=by kernel_rfl
end Go.Ev.C
end
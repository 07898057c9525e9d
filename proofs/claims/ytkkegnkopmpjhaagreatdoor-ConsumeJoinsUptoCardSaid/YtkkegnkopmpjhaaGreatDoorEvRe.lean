/- The law Joins: closed facts of its row. -/
import Derived.Test.YtkkegnkopmpjhaaGreatDoorEvR
import Derived.Test.YtkkegnkopmpjhaaGreatDoorRows
import Derived.WalkKit
import Derived.ProofKit
import Derived.Deep.DeepHandedRow
section
set_option linter.unusedVariables false
set_option linter.unusedSimpArgs false
set_option linter.defProp false
set_option linter.all false
namespace Go.Ev.C
open Go.Proofs Go.RowKit Go.ChangeShapes Go.WideShapes
open Go.Proofs.YtkkegnkopmpjhaaGreatDoor
set_option maxRecDepth 100000
theorem fk13 : ((c5r.maps == (Tryz.f5.params.toList ++ sp5.plain.varTypes P5).any (P5.mapsRec ·))) = true := by kernel_rfl
theorem fk14 : ((c5r.ifaces == (Tryz.f5.params.toList ++ sp5.plain.varTypes P5).any (P5.ifacesRec ·))) = true := by kernel_rfl
theorem fk15 : ((c5r.mapsOut == P5.mapsAmong Tryz.f5.resultTypes.toList)) = true := by kernel_rfl
theorem fk16 : ((c5r.loops == (Tryz.f5.params.toList ++ sp5.plain.varTypes P5).any (P5.loopsFrom ·))) = true := by kernel_rfl
theorem fk17 : ((c5r.wideKeys == (Tryz.f5.params.toList ++ sp5.plain.varTypes P5 ++ Tryz.f5.resultTypes.toList).any (P5.wideKeysFrom ·))) = true := by kernel_rfl
theorem fk18 : (sp5.vars.all (P5.varReadable ·)) = true := by kernel_rfl
theorem fk19 : (Tryz.f5.resultTypes.all (fun t => P5.readableRec t && decide (t < P5.types.size))) = true := by kernel_rfl
theorem fk20 : ((c5r.ifacesOut == Tryz.f5.resultTypes.toList.any (P5.ifacesRec ·))) = true := by kernel_rfl
theorem fk21 : ((c5r.loopsOut == Tryz.f5.resultTypes.toList.any (P5.loopsFrom ·))) = true := by kernel_rfl
theorem fk22 : ((c5r.plainKeys == P5.plainKeys)) = true := by kernel_rfl
theorem fk23 : (c5r.shortTexts.isNone) = true := by kernel_rfl
theorem fk28 : ((c5r.kinds == (if c5r.domain.isEmpty then [] else Tryz.f5.params.toList.map fun t => match P5.underlying t with | some (.int k) => some k | _ => none))) = true := by kernel_rfl
theorem fk29 : ((c5r.pinned == c5r.pinnedBy)) = true := by kernel_rfl
theorem fk30 : ((c5r.veiled == (Tryz.f5.params.toList ++ sp5.plain.varTypes P5 ++ Tryz.f5.resultTypes.toList).any (P5.veiledRec ·))) = true := by kernel_rfl
theorem fk31 : (c5r.veiledFits P5 Tryz.f5.params.toList (Tryz.f5.params.toList ++ sp5.plain.varTypes P5 ++ Tryz.f5.resultTypes.toList)) = true := by kernel_rfl
end Go.Ev.C
end

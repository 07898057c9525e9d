/- The law Numbers: closed facts of its row. -/
import Derived.Test.YtkkegnkopmpjhaaGreatDoorEvR
import Derived.Test.YtkkegnkopmpjhaaGreatDoorRows
import Derived.WalkKit
import Derived.ProofKit
import Derived.Deep.DeepHandedRow
section
set_option linter.unusedVariables false
set_option linter.unusedSimpArgs false
set_option linter.defProp false
set_option linter.all false
namespace Go.Ev.C
open Go.Proofs Go.RowKit Go.ChangeShapes Go.WideShapes
open Go.Proofs.YtkkegnkopmpjhaaGreatDoor
set_option maxRecDepth 100000
theorem fk13 : ((c7r.maps == (Tryz.f7.params.toList ++ sp7.plain.varTypes P7).any (P7.mapsRec ·))) = true := by kernel_rfl
theorem fk14 : ((c7r.ifaces == (Tryz.f7.params.toList ++ sp7.plain.varTypes P7).any (P7.ifacesRec ·))) = true := by kernel_rfl
theorem fk15 : ((c7r.mapsOut == P7.mapsAmong Tryz.f7.resultTypes.toList)) = true := by kernel_rfl
theorem fk16 : ((c7r.loops == (Tryz.f7.params.toList ++ sp7.plain.varTypes P7).any (P7.loopsFrom ·))) = true := by kernel_rfl
theorem fk17 : ((c7r.wideKeys == (Tryz.f7.params.toList ++ sp7.plain.varTypes P7 ++ Tryz.f7.resultTypes.toList).any (P7.wideKeysFrom ·))) = true := by kernel_rfl
theorem fk18 : (sp7.vars.all (P7.varReadable ·)) = true := by kernel_rfl
theorem fk19 : (Tryz.f7.resultTypes.all (fun t => P7.readableRec t && decide (t < P7.types.size))) = true := by kernel_rfl
theorem fk20 : ((c7r.ifacesOut == Tryz.f7.resultTypes.toList.any (P7.ifacesRec ·))) = true := by kernel_rfl
theorem fk21 : ((c7r.loopsOut == Tryz.f7.resultTypes.toList.any (P7.loopsFrom ·))) = true := by kernel_rfl
theorem fk22 : ((c7r.plainKeys == P7.plainKeys)) = true := by kernel_rfl
theorem fk23 : (c7r.shortTexts.isNone) = true := by kernel_rfl
theorem fk28 : ((c7r.kinds == (if c7r.domain.isEmpty then [] else Tryz.f7.params.toList.map fun t => match P7.underlying t with | some (.int k) => some k | _ => none))) = true := by kernel_rfl
theorem fk29 : ((c7r.pinned == c7r.pinnedBy)) = true := by kernel_rfl
theorem fk30 : ((c7r.veiled == (Tryz.f7.params.toList ++ sp7.plain.varTypes P7 ++ Tryz.f7.resultTypes.toList).any (P7.veiledRec ·))) = true := by kernel_rfl
theorem fk31 : (c7r.veiledFits P7 Tryz.f7.params.toList (Tryz.f7.params.toList ++ sp7.plain.varTypes P7 ++ Tryz.f7.resultTypes.toList)) = true := by kernel_rfl
end Go.Ev.C
end

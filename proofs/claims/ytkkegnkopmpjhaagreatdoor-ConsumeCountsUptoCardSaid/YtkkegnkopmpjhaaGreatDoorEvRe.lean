/- The law Counts: closed facts of its row. -/
import Derived.Test.YtkkegnkopmpjhaaGreatDoorEvR
import Derived.Test.YtkkegnkopmpjhaaGreatDoorRows
import Derived.WalkKit
import Derived.ProofKit
import Derived.Deep.DeepHandedRow
section
set_option linter.unusedVariables false
set_option linter.unusedSimpArgs false
set_option linter.defProp false
set_option linter.all false
namespace Go.Ev.C
open Go.Proofs Go.RowKit Go.ChangeShapes Go.WideShapes
open Go.Proofs.YtkkegnkopmpjhaaGreatDoor
set_option maxRecDepth 100000
theorem fk13 : ((c8r.maps == (Tryz.f8.params.toList ++ sp8.plain.varTypes P8).any (P8.mapsRec ·))) = true := by kernel_rfl
theorem fk14 : ((c8r.ifaces == (Tryz.f8.params.toList ++ sp8.plain.varTypes P8).any (P8.ifacesRec ·))) = true := by kernel_rfl
theorem fk15 : ((c8r.mapsOut == P8.mapsAmong Tryz.f8.resultTypes.toList)) = true := by kernel_rfl
theorem fk16 : ((c8r.loops == (Tryz.f8.params.toList ++ sp8.plain.varTypes P8).any (P8.loopsFrom ·))) = true := by kernel_rfl
theorem fk17 : ((c8r.wideKeys == (Tryz.f8.params.toList ++ sp8.plain.varTypes P8 ++ Tryz.f8.resultTypes.toList).any (P8.wideKeysFrom ·))) = true := by kernel_rfl
theorem fk18 : (sp8.vars.all (P8.varReadable ·)) = true := by kernel_rfl
theorem fk19 : (Tryz.f8.resultTypes.all (fun t => P8.readableRec t && decide (t < P8.types.size))) = true := by kernel_rfl
theorem fk20 : ((c8r.ifacesOut == Tryz.f8.resultTypes.toList.any (P8.ifacesRec ·))) = true := by kernel_rfl
theorem fk21 : ((c8r.loopsOut == Tryz.f8.resultTypes.toList.any (P8.loopsFrom ·))) = true := by kernel_rfl
theorem fk22 : ((c8r.plainKeys == P8.plainKeys)) = true := by kernel_rfl
theorem fk23 : (c8r.shortTexts.isNone) = true := by kernel_rfl
theorem fk28 : ((c8r.kinds == (if c8r.domain.isEmpty then [] else Tryz.f8.params.toList.map fun t => match P8.underlying t with | some (.int k) => some k | _ => none))) = true := by kernel_rfl
theorem fk29 : ((c8r.pinned == c8r.pinnedBy)) = true := by kernel_rfl
theorem fk30 : ((c8r.veiled == (Tryz.f8.params.toList ++ sp8.plain.varTypes P8 ++ Tryz.f8.resultTypes.toList).any (P8.veiledRec ·))) = true := by kernel_rfl
theorem fk31 : (c8r.veiledFits P8 Tryz.f8.params.toList (Tryz.f8.params.toList ++ sp8.plain.varTypes P8 ++ Tryz.f8.resultTypes.toList)) = true := by kernel_rfl
end Go.Ev.C
end

/- The law Formats: closed facts of its row. -/
import Derived.Test.YtkkegnkopmpjhaaGreatDoorEvR
import Derived.Test.YtkkegnkopmpjhaaGreatDoorRows
import Derived.WalkKit
import Derived.ProofKit
import Derived.Deep.DeepHandedRow
section
set_option linter.unusedVariables false
set_option linter.unusedSimpArgs false
set_option linter.defProp false
set_option linter.all false
namespace Go.Ev.C
open Go.Proofs Go.RowKit Go.ChangeShapes Go.WideShapes
open Go.Proofs.YtkkegnkopmpjhaaGreatDoor
set_option maxRecDepth 100000
theorem fk13 : ((c3r.maps == (Tryz.f3.params.toList ++ sp3.plain.varTypes P3).any (P3.mapsRec ·))) = true := by kernel_rfl
theorem fk14 : ((c3r.ifaces == (Tryz.f3.params.toList ++ sp3.plain.varTypes P3).any (P3.ifacesRec ·))) = true := by kernel_rfl
theorem fk15 : ((c3r.mapsOut == P3.mapsAmong Tryz.f3.resultTypes.toList)) = true := by kernel_rfl
theorem fk16 : ((c3r.loops == (Tryz.f3.params.toList ++ sp3.plain.varTypes P3).any (P3.loopsFrom ·))) = true := by kernel_rfl
theorem fk17 : ((c3r.wideKeys == (Tryz.f3.params.toList ++ sp3.plain.varTypes P3 ++ Tryz.f3.resultTypes.toList).any (P3.wideKeysFrom ·))) = true := by kernel_rfl
theorem fk18 : (sp3.vars.all (P3.varReadable ·)) = true := by kernel_rfl
theorem fk19 : (Tryz.f3.resultTypes.all (fun t => P3.readableRec t && decide (t < P3.types.size))) = true := by kernel_rfl
theorem fk20 : ((c3r.ifacesOut == Tryz.f3.resultTypes.toList.any (P3.ifacesRec ·))) = true := by kernel_rfl
theorem fk21 : ((c3r.loopsOut == Tryz.f3.resultTypes.toList.any (P3.loopsFrom ·))) = true := by kernel_rfl
theorem fk22 : ((c3r.plainKeys == P3.plainKeys)) = true := by kernel_rfl
theorem fk23 : (c3r.shortTexts.isNone) = true := by kernel_rfl
theorem fk28 : ((c3r.kinds == (if c3r.domain.isEmpty then [] else Tryz.f3.params.toList.map fun t => match P3.underlying t with | some (.int k) => some k | _ => none))) = true := by kernel_rfl
theorem fk29 : ((c3r.pinned == c3r.pinnedBy)) = true := by kernel_rfl
theorem fk30 : ((c3r.veiled == (Tryz.f3.params.toList ++ sp3.plain.varTypes P3 ++ Tryz.f3.resultTypes.toList).any (P3.veiledRec ·))) = true := by kernel_rfl
theorem fk31 : (c3r.veiledFits P3 Tryz.f3.params.toList (Tryz.f3.params.toList ++ sp3.plain.varTypes P3 ++ Tryz.f3.resultTypes.toList)) = true := by kernel_rfl
end Go.Ev.C
end

/- The law Saved: closed facts of its row. -/
import Derived.Test.YtkkegnkopmpjhaaGreatDoorEvR
import Derived.Test.YtkkegnkopmpjhaaGreatDoorRows
import Derived.WalkKit
import Derived.ProofKit
import Derived.Deep.DeepHandedRow
section
set_option linter.unusedVariables false
set_option linter.unusedSimpArgs false
set_option linter.defProp false
set_option linter.all false
namespace Go.Ev.C
open Go.Proofs Go.RowKit Go.ChangeShapes Go.WideShapes
open Go.Proofs.YtkkegnkopmpjhaaGreatDoor
set_option maxRecDepth 100000
theorem fk13 : ((c6r.maps == (Tryz.f6.params.toList ++ sp6.plain.varTypes P6).any (P6.mapsRec ·))) = true := by kernel_rfl
theorem fk14 : ((c6r.ifaces == (Tryz.f6.params.toList ++ sp6.plain.varTypes P6).any (P6.ifacesRec ·))) = true := by kernel_rfl
theorem fk15 : ((c6r.mapsOut == P6.mapsAmong Tryz.f6.resultTypes.toList)) = true := by kernel_rfl
theorem fk16 : ((c6r.loops == (Tryz.f6.params.toList ++ sp6.plain.varTypes P6).any (P6.loopsFrom ·))) = true := by kernel_rfl
theorem fk17 : ((c6r.wideKeys == (Tryz.f6.params.toList ++ sp6.plain.varTypes P6 ++ Tryz.f6.resultTypes.toList).any (P6.wideKeysFrom ·))) = true := by kernel_rfl
theorem fk18 : (sp6.vars.all (P6.varReadable ·)) = true := by kernel_rfl
theorem fk19 : (Tryz.f6.resultTypes.all (fun t => P6.readableRec t && decide (t < P6.types.size))) = true := by kernel_rfl
theorem fk20 : ((c6r.ifacesOut == Tryz.f6.resultTypes.toList.any (P6.ifacesRec ·))) = true := by kernel_rfl
theorem fk21 : ((c6r.loopsOut == Tryz.f6.resultTypes.toList.any (P6.loopsFrom ·))) = true := by kernel_rfl
theorem fk22 : ((c6r.plainKeys == P6.plainKeys)) = true := by kernel_rfl
theorem fk23 : (c6r.shortTexts.isNone) = true := by kernel_rfl
theorem fk28 : ((c6r.kinds == (if c6r.domain.isEmpty then [] else Tryz.f6.params.toList.map fun t => match P6.underlying t with | some (.int k) => some k | _ => none))) = true := by kernel_rfl
theorem fk29 : ((c6r.pinned == c6r.pinnedBy)) = true := by kernel_rfl
theorem fk30 : ((c6r.veiled == (Tryz.f6.params.toList ++ sp6.plain.varTypes P6 ++ Tryz.f6.resultTypes.toList).any (P6.veiledRec ·))) = true := by kernel_rfl
theorem fk31 : (c6r.veiledFits P6 Tryz.f6.params.toList (Tryz.f6.params.toList ++ sp6.plain.varTypes P6 ++ Tryz.f6.resultTypes.toList)) = true := by kernel_rfl
end Go.Ev.C
end

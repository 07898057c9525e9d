/- The law Selected: closed facts of its row. -/
import Derived.Test.YtkkegnkopmpjhaaGreatDoorEvR
import Derived.Test.YtkkegnkopmpjhaaGreatDoorRows
import Derived.WalkKit
import Derived.ProofKit
import Derived.Deep.DeepHandedRow
section
set_option linter.unusedVariables false
set_option linter.unusedSimpArgs false
set_option linter.defProp false
set_option linter.all false
namespace Go.Ev.C
open Go.Proofs Go.RowKit Go.ChangeShapes Go.WideShapes
open Go.Proofs.YtkkegnkopmpjhaaGreatDoor
set_option maxRecDepth 100000
theorem fk13 : ((c9r.maps == (Tryz.f9.params.toList ++ sp9.plain.varTypes P9).any (P9.mapsRec ·))) = true := by kernel_rfl
theorem fk14 : ((c9r.ifaces == (Tryz.f9.params.toList ++ sp9.plain.varTypes P9).any (P9.ifacesRec ·))) = true := by kernel_rfl
theorem fk15 : ((c9r.mapsOut == P9.mapsAmong Tryz.f9.resultTypes.toList)) = true := by kernel_rfl
theorem fk16 : ((c9r.loops == (Tryz.f9.params.toList ++ sp9.plain.varTypes P9).any (P9.loopsFrom ·))) = true := by kernel_rfl
theorem fk17 : ((c9r.wideKeys == (Tryz.f9.params.toList ++ sp9.plain.varTypes P9 ++ Tryz.f9.resultTypes.toList).any (P9.wideKeysFrom ·))) = true := by kernel_rfl
theorem fk18 : (sp9.vars.all (P9.varReadable ·)) = true := by kernel_rfl
theorem fk19 : (Tryz.f9.resultTypes.all (fun t => P9.readableRec t && decide (t < P9.types.size))) = true := by kernel_rfl
theorem fk20 : ((c9r.ifacesOut == Tryz.f9.resultTypes.toList.any (P9.ifacesRec ·))) = true := by kernel_rfl
theorem fk21 : ((c9r.loopsOut == Tryz.f9.resultTypes.toList.any (P9.loopsFrom ·))) = true := by kernel_rfl
theorem fk22 : ((c9r.plainKeys == P9.plainKeys)) = true := by kernel_rfl
theorem fk23 : (c9r.shortTexts.isNone) = true := by kernel_rfl
theorem fk28 : ((c9r.kinds == (if c9r.domain.isEmpty then [] else Tryz.f9.params.toList.map fun t => match P9.underlying t with | some (.int k) => some k | _ => none))) = true := by kernel_rfl
theorem fk29 : ((c9r.pinned == c9r.pinnedBy)) = true := by kernel_rfl
theorem fk30 : ((c9r.veiled == (Tryz.f9.params.toList ++ sp9.plain.varTypes P9 ++ Tryz.f9.resultTypes.toList).any (P9.veiledRec ·))) = true := by kernel_rfl
theorem fk31 : (c9r.veiledFits P9 Tryz.f9.params.toList (Tryz.f9.params.toList ++ sp9.plain.varTypes P9 ++ Tryz.f9.resultTypes.toList)) = true := by kernel_rfl
end Go.Ev.C
end

/- The law Reads: closed facts of its row. -/
import Derived.Test.YtkkegnkopmpjhaaGreatDoorEvR
import Derived.Test.YtkkegnkopmpjhaaGreatDoorRows
import Derived.WalkKit
import Derived.ProofKit
import Derived.Deep.DeepHandedRow
set_option linter.unusedVariables false
set_option linter.unusedSimpArgs false
set_option linter.all false
section
namespace Go.Ev.C
open Go.Proofs Go.RowKit Go.ChangeShapes Go.WideShapes
open Go.Proofs.YtkkegnkopmpjhaaGreatDoor
set_option maxRecDepth 100000
theorem fk13:((c4r.maps == (Tryz.f4.params.toList ++ sp4.plain.varTypes P4).any (P4.mapsRec ·))) = true:=by kernel_rfl
theorem fk14:((c4r.ifaces == (Tryz.f4.params.toList ++ sp4.plain.varTypes P4).any (P4.ifacesRec ·))) = true:=by kernel_rfl
theorem fk15:((c4r.mapsOut == P4.mapsAmong Tryz.f4.resultTypes.toList)) = true:=by kernel_rfl
theorem fk16:((c4r.loops == (Tryz.f4.params.toList ++ sp4.plain.varTypes P4).any (P4.loopsFrom ·))) = true:=by kernel_rfl
theorem fk17:((c4r.wideKeys == (Tryz.f4.params.toList ++ sp4.plain.varTypes P4 ++ Tryz.f4.resultTypes.toList).any (P4.wideKeysFrom ·))) = true:=by kernel_rfl
theorem fk18:(sp4.vars.all (P4.varReadable ·)) = true:=by kernel_rfl
theorem fk19:(Tryz.f4.resultTypes.all (fun t =>P4.readableRec t && decide (t < P4.types.size))) = true:=by kernel_rfl
theorem fk20:((c4r.ifacesOut == Tryz.f4.resultTypes.toList.any (P4.ifacesRec ·))) = true:=by kernel_rfl
theorem fk21:((c4r.loopsOut == Tryz.f4.resultTypes.toList.any (P4.loopsFrom ·))) = true:=by kernel_rfl
theorem fk22:((c4r.plainKeys == P4.plainKeys)) = true:=by kernel_rfl
theorem fk23:(c4r.shortTexts.isNone) = true:=by kernel_rfl
theorem fk28:((c4r.kinds == (if c4r.domain.isEmpty then [] else Tryz.f4.params.toList.map fun t =>match P4.underlying t with | some (.int k) =>some k | _ =>none))) = true:=by kernel_rfl
theorem fk29:((c4r.pinned == c4r.pinnedBy)) = true:=by kernel_rfl
theorem fk30:((c4r.veiled == (Tryz.f4.params.toList ++ sp4.plain.varTypes P4 ++ Tryz.f4.resultTypes.toList).any (P4.veiledRec ·))) = true:=by kernel_rfl
theorem fk31:(c4r.veiledFits P4 Tryz.f4.params.toList (Tryz.f4.params.toList ++ sp4.plain.varTypes P4 ++ Tryz.f4.resultTypes.toList)) = true:=by kernel_rfl
end Go.Ev.C
end
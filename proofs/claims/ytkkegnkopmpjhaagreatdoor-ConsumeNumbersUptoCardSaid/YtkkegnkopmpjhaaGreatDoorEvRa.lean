/- The law Numbers: closed facts of its row. -/
import Derived.Test.YtkkegnkopmpjhaaGreatDoorEvR
import Derived.Test.YtkkegnkopmpjhaaGreatDoorRows
import Derived.WalkKit
import Derived.ProofKit
import Derived.Deep.DeepHandedRow
section
set_option linter.unusedVariables false
set_option linter.unusedSimpArgs false
set_option linter.defProp false
set_option linter.all false
namespace Go.Ev.C
open Go.Proofs Go.RowKit Go.ChangeShapes Go.WideShapes
open Go.Proofs.YtkkegnkopmpjhaaGreatDoor
set_option maxRecDepth 100000
theorem fk0 : (c7r.wf (OpenSpec.ofChange sp7)) = true := by kernel_rfl
theorem fk1 : (laidOutB P7) = true := by kernel_rfl
theorem fk2 : (mapsRowed P7) = true := by kernel_rfl
theorem fk3 : (Tryz.f7.params.all (P7.readableRec ·)) = true := by kernel_rfl
theorem fk4 : (namedTie P7 c7r.named sp7.vars) = true := by kernel_rfl
theorem fk5 : ((c7r.stops == [])) = true := by kernel_rfl
theorem fk6 : ((P7.stops == [])) = true := by kernel_rfl
theorem fk7 : ((c7r.knobs == [])) = true := by kernel_rfl
theorem fk8 : ((P7.stopKnobs == [])) = true := by kernel_rfl
end Go.Ev.C
end

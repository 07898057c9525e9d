/- The law Saved: closed facts of its row. -/
import Derived.Test.YtkkegnkopmpjhaaGreatDoorEvR
import Derived.Test.YtkkegnkopmpjhaaGreatDoorRows
import Derived.WalkKit
import Derived.ProofKit
import Derived.Deep.DeepHandedRow
section
set_option linter.unusedVariables false
set_option linter.unusedSimpArgs false
set_option linter.defProp false
set_option linter.all false
namespace Go.Ev.C
open Go.Proofs Go.RowKit Go.ChangeShapes Go.WideShapes
open Go.Proofs.YtkkegnkopmpjhaaGreatDoor
set_option maxRecDepth 100000
theorem fk0 : (c6r.wf (OpenSpec.ofChange sp6)) = true := by kernel_rfl
theorem fk1 : (laidOutB P6) = true := by kernel_rfl
theorem fk2 : (mapsRowed P6) = true := by kernel_rfl
theorem fk3 : (Tryz.f6.params.all (P6.readableRec ·)) = true := by kernel_rfl
theorem fk4 : (namedTie P6 c6r.named sp6.vars) = true := by kernel_rfl
theorem fk5 : ((c6r.stops == [])) = true := by kernel_rfl
theorem fk6 : ((P6.stops == [])) = true := by kernel_rfl
theorem fk7 : ((c6r.knobs == [])) = true := by kernel_rfl
theorem fk8 : ((P6.stopKnobs == [])) = true := by kernel_rfl
end Go.Ev.C
end

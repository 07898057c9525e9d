/- The law Counts: closed facts of its row. -/
import Derived.Test.YtkkegnkopmpjhaaGreatDoorEvR
import Derived.Test.YtkkegnkopmpjhaaGreatDoorRows
import Derived.WalkKit
import Derived.ProofKit
import Derived.Deep.DeepHandedRow
section
set_option linter.unusedVariables false
set_option linter.unusedSimpArgs false
set_option linter.defProp false
set_option linter.all false
namespace Go.Ev.C
open Go.Proofs Go.RowKit Go.ChangeShapes Go.WideShapes
open Go.Proofs.YtkkegnkopmpjhaaGreatDoor
set_option maxRecDepth 100000
theorem fk0 : (c8r.wf (OpenSpec.ofChange sp8)) = true := by kernel_rfl
theorem fk1 : (laidOutB P8) = true := by kernel_rfl
theorem fk2 : (mapsRowed P8) = true := by kernel_rfl
theorem fk3 : (Tryz.f8.params.all (P8.readableRec ·)) = true := by kernel_rfl
theorem fk4 : (namedTie P8 c8r.named sp8.vars) = true := by kernel_rfl
theorem fk5 : ((c8r.stops == [])) = true := by kernel_rfl
theorem fk6 : ((P8.stops == [])) = true := by kernel_rfl
theorem fk7 : ((c8r.knobs == [])) = true := by kernel_rfl
theorem fk8 : ((P8.stopKnobs == [])) = true := by kernel_rfl
end Go.Ev.C
end

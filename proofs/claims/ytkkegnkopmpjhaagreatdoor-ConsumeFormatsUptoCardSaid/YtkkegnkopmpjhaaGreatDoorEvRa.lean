/- The law Formats: closed facts of its row. -/
import Derived.Test.YtkkegnkopmpjhaaGreatDoorEvR
import Derived.Test.YtkkegnkopmpjhaaGreatDoorRows
import Derived.WalkKit
import Derived.ProofKit
import Derived.Deep.DeepHandedRow
section
set_option linter.unusedVariables false
set_option linter.unusedSimpArgs false
set_option linter.defProp false
set_option linter.all false
namespace Go.Ev.C
open Go.Proofs Go.RowKit Go.ChangeShapes Go.WideShapes
open Go.Proofs.YtkkegnkopmpjhaaGreatDoor
set_option maxRecDepth 100000
theorem fk0 : (c3r.wf (OpenSpec.ofChange sp3)) = true := by kernel_rfl
theorem fk1 : (laidOutB P3) = true := by kernel_rfl
theorem fk2 : (mapsRowed P3) = true := by kernel_rfl
theorem fk3 : (Tryz.f3.params.all (P3.readableRec ·)) = true := by kernel_rfl
theorem fk4 : (namedTie P3 c3r.named sp3.vars) = true := by kernel_rfl
theorem fk5 : ((c3r.stops == [])) = true := by kernel_rfl
theorem fk6 : ((P3.stops == [])) = true := by kernel_rfl
theorem fk7 : ((c3r.knobs == [])) = true := by kernel_rfl
theorem fk8 : ((P3.stopKnobs == [])) = true := by kernel_rfl
end Go.Ev.C
end

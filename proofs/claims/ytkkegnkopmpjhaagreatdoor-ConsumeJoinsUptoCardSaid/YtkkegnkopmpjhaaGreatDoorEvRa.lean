/- The law Joins: closed facts of its row. -/
import Derived.Test.YtkkegnkopmpjhaaGreatDoorEvR
import Derived.Test.YtkkegnkopmpjhaaGreatDoorRows
import Derived.WalkKit
import Derived.ProofKit
import Derived.Deep.DeepHandedRow
section
set_option linter.unusedVariables false
set_option linter.unusedSimpArgs false
set_option linter.defProp false
set_option linter.all false
namespace Go.Ev.C
open Go.Proofs Go.RowKit Go.ChangeShapes Go.WideShapes
open Go.Proofs.YtkkegnkopmpjhaaGreatDoor
set_option maxRecDepth 100000
theorem fk0 : (c5r.wf (OpenSpec.ofChange sp5)) = true := by kernel_rfl
theorem fk1 : (laidOutB P5) = true := by kernel_rfl
theorem fk2 : (mapsRowed P5) = true := by kernel_rfl
theorem fk3 : (Tryz.f5.params.all (P5.readableRec ·)) = true := by kernel_rfl
theorem fk4 : (namedTie P5 c5r.named sp5.vars) = true := by kernel_rfl
theorem fk5 : ((c5r.stops == [])) = true := by kernel_rfl
theorem fk6 : ((P5.stops == [])) = true := by kernel_rfl
theorem fk7 : ((c5r.knobs == [])) = true := by kernel_rfl
theorem fk8 : ((P5.stopKnobs == [])) = true := by kernel_rfl
end Go.Ev.C
end

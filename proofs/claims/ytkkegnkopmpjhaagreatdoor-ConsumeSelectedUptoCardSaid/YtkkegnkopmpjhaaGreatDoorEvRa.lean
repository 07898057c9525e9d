/- The law Selected: closed facts of its row. -/
import Derived.Test.YtkkegnkopmpjhaaGreatDoorEvR
import Derived.Test.YtkkegnkopmpjhaaGreatDoorRows
import Derived.WalkKit
import Derived.ProofKit
import Derived.Deep.DeepHandedRow
section
set_option linter.unusedVariables false
set_option linter.unusedSimpArgs false
set_option linter.defProp false
set_option linter.all false
namespace Go.Ev.C
open Go.Proofs Go.RowKit Go.ChangeShapes Go.WideShapes
open Go.Proofs.YtkkegnkopmpjhaaGreatDoor
set_option maxRecDepth 100000
theorem fk0 : (c9r.wf (OpenSpec.ofChange sp9)) = true := by kernel_rfl
theorem fk1 : (laidOutB P9) = true := by kernel_rfl
theorem fk2 : (mapsRowed P9) = true := by kernel_rfl
theorem fk3 : (Tryz.f9.params.all (P9.readableRec ·)) = true := by kernel_rfl
theorem fk4 : (namedTie P9 c9r.named sp9.vars) = true := by kernel_rfl
theorem fk5 : ((c9r.stops == [])) = true := by kernel_rfl
theorem fk6 : ((P9.stops == [])) = true := by kernel_rfl
theorem fk7 : ((c9r.knobs == [])) = true := by kernel_rfl
theorem fk8 : ((P9.stopKnobs == [])) = true := by kernel_rfl
end Go.Ev.C
end

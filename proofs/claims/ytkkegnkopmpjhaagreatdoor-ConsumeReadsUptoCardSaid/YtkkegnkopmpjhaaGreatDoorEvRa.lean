/- The law Reads: closed facts of its row. -/
import Derived.Test.YtkkegnkopmpjhaaGreatDoorEvR
import Derived.Test.YtkkegnkopmpjhaaGreatDoorRows
import Derived.WalkKit
import Derived.ProofKit
import Derived.Deep.DeepHandedRow
set_option linter.unusedVariables false
set_option linter.unusedSimpArgs false
set_option linter.all false
section
namespace Go.Ev.C
open Go.Proofs Go.RowKit Go.ChangeShapes Go.WideShapes
open Go.Proofs.YtkkegnkopmpjhaaGreatDoor
set_option maxRecDepth 100000
theorem fk0:(c4r.wf (OpenSpec.ofChange sp4)) = true:=by kernel_rfl
theorem fk1:(laidOutB P4) = true:=by kernel_rfl
theorem fk2:(mapsRowed P4) = true:=by kernel_rfl
theorem fk3:(Tryz.f4.params.all (P4.readableRec ·)) = true:=by kernel_rfl
theorem fk4:(namedTie P4 c4r.named sp4.vars) = true:=by kernel_rfl
theorem fk5:((c4r.stops == [])) = true:=by kernel_rfl
theorem fk6:((P4.stops == [])) = true:=by kernel_rfl
theorem fk7:((c4r.knobs == [])) = true:=by kernel_rfl
theorem fk8:((P4.stopKnobs == [])) = true:=by kernel_rfl
end Go.Ev.C
end
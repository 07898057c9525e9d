/- The run, piece by piece. -/
import Derived.Test.YtkkegnkopmpjhaaGreatDoorEvSb
set_option linter.unusedVariables false
set_option linter.unusedSimpArgs false
set_option linter.all false
section
namespace Go.Ev.C
set_option maxRecDepth 1000000
theorem r15:runA Q 18536 s13 = some s15:=by kernel_rfl
end Go.Ev.C
end
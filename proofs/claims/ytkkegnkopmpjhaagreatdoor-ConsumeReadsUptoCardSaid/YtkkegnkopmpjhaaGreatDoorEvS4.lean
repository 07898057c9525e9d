/- The run, piece by piece. -/
import Derived.Test.YtkkegnkopmpjhaaGreatDoorEvSb
set_option linter.unusedVariables false
set_option linter.unusedSimpArgs false
set_option linter.all false
section
namespace Go.Ev.C
set_option maxRecDepth 1000000
theorem r9:runA Q 19400 s7 = some s9:=by kernel_rfl
end Go.Ev.C
end
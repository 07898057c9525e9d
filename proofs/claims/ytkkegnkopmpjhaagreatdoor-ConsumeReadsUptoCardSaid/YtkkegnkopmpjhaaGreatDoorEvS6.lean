/- The run, piece by piece. -/
import Derived.Test.YtkkegnkopmpjhaaGreatDoorEvSb
set_option linter.unusedVariables false
set_option linter.unusedSimpArgs false
set_option linter.all false
section
namespace Go.Ev.C
set_option maxRecDepth 1000000
theorem r13:runA Q 19400 s11 = some s13:=by kernel_rfl
end Go.Ev.C
end
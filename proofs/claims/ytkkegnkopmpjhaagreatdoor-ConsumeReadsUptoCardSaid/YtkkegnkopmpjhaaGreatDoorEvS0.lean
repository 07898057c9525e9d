/- The run, piece by piece. -/
import Derived.Test.YtkkegnkopmpjhaaGreatDoorEvSb
set_option linter.unusedVariables false
set_option linter.unusedSimpArgs false
set_option linter.all false
section
namespace Go.Ev.C
set_option maxRecDepth 1000000
theorem r1:runA Q 9700 s0 = some s1:=by kernel_rfl
end Go.Ev.C
end
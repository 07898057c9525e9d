/- Which type the name of an error's pointer stands for. -/
import Derived.Test.YtkkegnkopmpjhaaGreatDoorEvF
import Derived.Lib.LaidTab
set_option linter.unusedVariables false
set_option linter.unusedSimpArgs false
set_option linter.all false
section
namespace Go.Ev.C
open Go.Proofs
set_option maxRecDepth 100000
theorem star467 : "*" ++ "errors.errorString" = "*errors.errorString" := by decide
theorem type467 (u : TypeId) (h : Q.typeName? 3 u = some "*errors.errorString") : u = 467 :=
 typeName_ptr_named (P := Q) (nm := "errors.errorString") (tp := 467) (by rw [star467]; kernel_rfl) (by kernel_rfl) (by decide) u (by rw [star467]; exact h)
end Go.Ev.C
end
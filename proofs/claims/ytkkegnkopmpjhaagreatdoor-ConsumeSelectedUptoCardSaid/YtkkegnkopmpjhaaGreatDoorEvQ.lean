/- The law Selected: closed facts of its row. -/
import Derived.Test.YtkkegnkopmpjhaaGreatDoorEvH
import Derived.Test.YtkkegnkopmpjhaaGreatDoorRows
import Derived.WalkKit
import Derived.ProofKit
import Derived.Deep.DeepHandedRow
section
set_option linter.unusedVariables false
set_option linter.unusedSimpArgs false
set_option linter.defProp false
set_option linter.all false
namespace Go.Ev.C
open Go.Proofs Go.RowKit Go.ChangeShapes Go.WideShapes
open Go.Proofs.YtkkegnkopmpjhaaGreatDoor
set_option maxRecDepth 100000
theorem named9 : Tryz.pinned.checked.prog.funcNamed Rows.consumeSelectedUptoRow.func = some 9 := by kernel_rfl
theorem inst9 : Tryz.f9.isInstance Tryz.pinned.checked.prog Rows.consumeSelectedUptoRow.origin Rows.consumeSelectedUptoRow.targs := of_decide_eq_true (by kernel_rfl)
theorem wrap9 : Tryz.f9.isWrapper Tryz.pinned.checked.prog Rows.consumeSelectedUptoRow.wrapper Rows.consumeSelectedUptoRow.mainSum := by
  unfold Func.isWrapper; first | (rw [if_pos (by decide +kernel)]; kernel_rfl) | (rw [if_neg (by decide +kernel)]; exact ⟨rfl, rfl⟩)
end Go.Ev.C
end

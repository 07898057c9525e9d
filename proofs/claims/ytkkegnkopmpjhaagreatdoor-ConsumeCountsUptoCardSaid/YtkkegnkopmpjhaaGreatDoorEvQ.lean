/- The law Counts: closed facts of its row. -/
import Derived.Test.YtkkegnkopmpjhaaGreatDoorEvF
import Derived.Test.YtkkegnkopmpjhaaGreatDoorRows
import Derived.WalkKit
import Derived.ProofKit
import Derived.Deep.DeepHandedRow
section
set_option linter.unusedVariables false
set_option linter.unusedSimpArgs false
set_option linter.defProp false
set_option linter.all false
namespace Go.Ev.C
open Go.Proofs Go.RowKit Go.ChangeShapes Go.WideShapes
open Go.Proofs.YtkkegnkopmpjhaaGreatDoor
set_option maxRecDepth 100000
theorem named8 : Tryz.pinned.checked.prog.funcNamed Rows.consumeCountsUptoRow.func = some 8 := by kernel_rfl
theorem inst8 : Tryz.f8.isInstance Tryz.pinned.checked.prog Rows.consumeCountsUptoRow.origin Rows.consumeCountsUptoRow.targs := of_decide_eq_true (by kernel_rfl)
theorem wrap8 : Tryz.f8.isWrapper Tryz.pinned.checked.prog Rows.consumeCountsUptoRow.wrapper Rows.consumeCountsUptoRow.mainSum := by
  unfold Func.isWrapper; first | (rw [if_pos (by decide +kernel)]; kernel_rfl) | (rw [if_neg (by decide +kernel)]; exact ⟨rfl, rfl⟩)
end Go.Ev.C
end

/- The law Reads: closed facts of its row. -/
import Derived.Test.YtkkegnkopmpjhaaGreatDoorEvY
import Derived.Test.YtkkegnkopmpjhaaGreatDoorRows
import Derived.WalkKit
import Derived.ProofKit
import Derived.Deep.DeepHandedRow
set_option linter.unusedVariables false
set_option linter.unusedSimpArgs false
set_option linter.all false
section
namespace Go.Ev.C
open Go.Proofs Go.RowKit Go.ChangeShapes Go.WideShapes
open Go.Proofs.YtkkegnkopmpjhaaGreatDoor
set_option maxRecDepth 100000
theorem named4:Tryz.pinned.checked.prog.funcNamed Rows.consumeReadsUptoRow.func = some 4:=by kernel_rfl
theorem inst4:Tryz.f4.isInstance Tryz.pinned.checked.prog Rows.consumeReadsUptoRow.origin Rows.consumeReadsUptoRow.targs:=of_decide_eq_true (by kernel_rfl)
theorem wrap4:Tryz.f4.isWrapper Tryz.pinned.checked.prog Rows.consumeReadsUptoRow.wrapper Rows.consumeReadsUptoRow.mainSum:=by
 unfold Func.isWrapper;first | (rw [if_pos (by decide +kernel)];kernel_rfl) | (rw [if_neg (by decide +kernel)];exact⟨rfl,rfl⟩)
end Go.Ev.C
end
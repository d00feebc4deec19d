/- What is proved: closed facts of the row, part 2. Conditions: none. -/
import Derived.Test.YtepjcfcfpjhpgaaGreatDoorRows
import Derived.RowKit
import Derived.JoinedOf
import Derived.KernelRfl
set_option linter.all false
set_option maxRecDepth 100000
namespace Go.Proofs.YtepjcfcfpjhpgaaGreatDoor
open Go.RowKit
theorem jf4_9:((Rows.proofContentsRow.inPlace == Tryz.pinned.checked.prog.inPlace 4))=true:=by kernel_rfl
end Go.Proofs.YtepjcfcfpjhpgaaGreatDoor

/- What is proved: closed facts of the row, part 4. Conditions: none. -/
import Derived.Test.YtepjcfcfpjhpgaaGreatDoorRows
import Derived.RowKit
import Derived.JoinedOf
import Derived.KernelRfl
set_option linter.all false
set_option maxRecDepth 100000
namespace Go.Proofs.YtepjcfcfpjhpgaaGreatDoor
open Go.RowKit
theorem jf4_11:((Rows.proofContentsRow.recurses == Tryz.pinned.checked.prog.recurses 4))=true:=by kernel_rfl
end Go.Proofs.YtepjcfcfpjhpgaaGreatDoor

/- What is proved: closed facts of the row, part 5. Conditions: none. -/
import Derived.Test.YtepjcfcfpjhpgaaGreatDoorRows
import Derived.RowKit
import Derived.JoinedOf
import Derived.KernelRfl
set_option linter.all false
set_option maxRecDepth 100000
namespace Go.Proofs.YtepjcfcfpjhpgaaGreatDoor
open Go.RowKit
theorem jf4_12:((Rows.proofContentsRow.named == Tryz.pinned.checked.prog.varsNamed 4))=true:=by kernel_rfl
end Go.Proofs.YtepjcfcfpjhpgaaGreatDoor

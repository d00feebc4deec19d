/- What is proved: closed facts of the card, part 1. Conditions: none. -/
import Derived.Test.YtepjcfcfpjhpgaaGreatDoorRows
import Derived.RowKit
import Derived.SevenTiedAt
import Derived.KernelRfl
set_option linter.all false
set_option maxRecDepth 100000
namespace Go.Proofs.YtepjcfcfpjhpgaaGreatDoor
open Go.RowKit
theorem jc_goes:false=Rows.proofContentsRow.goesBy Tryz.pinned.checked.prog:=by kernel_rfl
end Go.Proofs.YtepjcfcfpjhpgaaGreatDoor

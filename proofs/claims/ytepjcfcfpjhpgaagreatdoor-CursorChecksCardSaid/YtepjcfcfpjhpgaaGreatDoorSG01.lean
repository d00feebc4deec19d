/- What is proved: closed facts of the row, part 1. Conditions: none. -/
import Derived.Test.YtepjcfcfpjhpgaaGreatDoorRows
import Derived.RowKit
import Derived.JoinedOf
import Derived.KernelRfl
import Derived.SevenTiedAt
set_option linter.all false
set_option maxRecDepth 100000
namespace Go.Proofs.YtepjcfcfpjhpgaaGreatDoor
open Go.RowKit
theorem jf3_1:(laidOutB Tryz.pinned.checked.prog)=true:=by kernel_rfl
end Go.Proofs.YtepjcfcfpjhpgaaGreatDoor
namespace Go.Proofs.YtepjcfcfpjhpgaaGreatDoor
open Go.RowKit
theorem jf3_2:(mapsRowed Tryz.pinned.checked.prog)=true:=by kernel_rfl
end Go.Proofs.YtepjcfcfpjhpgaaGreatDoor
namespace Go.Proofs.YtepjcfcfpjhpgaaGreatDoor
open Go.RowKit
theorem jc_main:Tryz.pinned.checked.prog.mainIs=some (true, "ac882a71bebfea4921878b0d354a7c74cf3a05f0a379a9467374552456511238".toList):=by kernel_rfl
theorem jc_wf:Rows.cursorChecksRow.wfByText (OpenSpec.ofChange Rows.cursorChecksSpec)=true:=by kernel_rfl
theorem jc_stand:([25,32,32].all fun u=>!Tryz.prog.wantsStandIn u)=true:=by kernel_rfl
end Go.Proofs.YtepjcfcfpjhpgaaGreatDoor
namespace Go.Proofs.YtepjcfcfpjhpgaaGreatDoor
open Go.RowKit
theorem jf3_0:(Rows.cursorChecksRow.wf (OpenSpec.ofChange Rows.cursorChecksSpec))=true:=by kernel_rfl
theorem jf3_3:(Tryz.f3.params.all (Tryz.pinned.checked.prog.readableRec ·))=true:=by kernel_rfl
theorem jf3_4:(namedTie Tryz.pinned.checked.prog Rows.cursorChecksRow.named Rows.cursorChecksSpec.vars)=true:=by kernel_rfl
theorem jf3_5:((Rows.cursorChecksRow.stops == []))=true:=by kernel_rfl
theorem jf3_6:((Tryz.pinned.checked.prog.stops == []))=true:=by kernel_rfl
theorem jf3_7:((Rows.cursorChecksRow.knobs == []))=true:=by kernel_rfl
theorem jf3_8:((Tryz.pinned.checked.prog.stopKnobs == []))=true:=by kernel_rfl
theorem jf3_13:((Rows.cursorChecksRow.maps == (Tryz.f3.params.toList++Rows.cursorChecksSpec.plain.varTypes Tryz.pinned.checked.prog).any (Tryz.pinned.checked.prog.mapsRec ·)))=true:=by kernel_rfl
theorem jf3_14:((Rows.cursorChecksRow.ifaces == (Tryz.f3.params.toList++Rows.cursorChecksSpec.plain.varTypes Tryz.pinned.checked.prog).any (Tryz.pinned.checked.prog.ifacesRec ·)))=true:=by kernel_rfl
theorem jf3_15:((Rows.cursorChecksRow.mapsOut == Tryz.pinned.checked.prog.mapsAmong Tryz.f3.resultTypes.toList))=true:=by kernel_rfl
theorem jf3_16:((Rows.cursorChecksRow.loops == (Tryz.f3.params.toList++Rows.cursorChecksSpec.plain.varTypes Tryz.pinned.checked.prog).any (Tryz.pinned.checked.prog.loopsFrom ·)))=true:=by kernel_rfl
theorem jf3_17:((Rows.cursorChecksRow.wideKeys == (Tryz.f3.params.toList++Rows.cursorChecksSpec.plain.varTypes Tryz.pinned.checked.prog++Tryz.f3.resultTypes.toList).any (Tryz.pinned.checked.prog.wideKeysFrom ·)))=true:=by kernel_rfl
theorem jf3_18:(Rows.cursorChecksSpec.vars.all (Tryz.pinned.checked.prog.varReadable ·))=true:=by kernel_rfl
theorem jf3_19:(Tryz.f3.resultTypes.all (fun t=>Tryz.pinned.checked.prog.readableRec t&&decide (t<Tryz.pinned.checked.prog.types.size)))=true:=by kernel_rfl
theorem jf3_20:((Rows.cursorChecksRow.ifacesOut == Tryz.f3.resultTypes.toList.any (Tryz.pinned.checked.prog.ifacesRec ·)))=true:=by kernel_rfl
theorem jf3_21:((Rows.cursorChecksRow.loopsOut == Tryz.f3.resultTypes.toList.any (Tryz.pinned.checked.prog.loopsFrom ·)))=true:=by kernel_rfl
theorem jf3_22:((Rows.cursorChecksRow.plainKeys == Tryz.pinned.checked.prog.plainKeys))=true:=by kernel_rfl
theorem jf3_23:(Rows.cursorChecksRow.shortTexts.isNone)=true:=by kernel_rfl
theorem jf3_24:(Tryz.pinned.checked.prog.stopsHeard)=true:=by kernel_rfl
theorem jf3_25:(Tryz.pinned.checked.prog.mayEnter)=true:=by kernel_rfl
theorem jf3_26:((Rows.cursorChecksRow.lifted == Tryz.pinned.checked.prog.liftsFinal))=true:=by kernel_rfl
theorem jf3_27:((Tryz.pinned.checked.prog.make == some Rows.cursorChecksRow.make))=true:=by kernel_rfl
theorem jf3_28:((Rows.cursorChecksRow.kinds == (if Rows.cursorChecksRow.domain.isEmpty then []else Tryz.f3.params.toList.map fun t=>match Tryz.pinned.checked.prog.underlying t with|some (.int k)=>some k|_=>none)))=true:=by kernel_rfl
theorem jf3_29:((Rows.cursorChecksRow.pinned == Rows.cursorChecksRow.pinnedBy))=true:=by kernel_rfl
theorem jf3_30:((Rows.cursorChecksRow.veiled == (Tryz.f3.params.toList++Rows.cursorChecksSpec.plain.varTypes Tryz.pinned.checked.prog++Tryz.f3.resultTypes.toList).any (Tryz.pinned.checked.prog.veiledRec ·)))=true:=by kernel_rfl
theorem jf3_31:(Rows.cursorChecksRow.veiledFits Tryz.pinned.checked.prog Tryz.f3.params.toList (Tryz.f3.params.toList++Rows.cursorChecksSpec.plain.varTypes Tryz.pinned.checked.prog++Tryz.f3.resultTypes.toList))=true:=by kernel_rfl
end Go.Proofs.YtepjcfcfpjhpgaaGreatDoor

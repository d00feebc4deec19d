/- What is proved: closed facts of the row, part 1. Conditions: none. -/
import Derived.Test.YtepjcfcfpjhpgaaGreatDoorRows
import Derived.RowKit
import Derived.JoinedOf
import Derived.KernelRfl
import Derived.SevenTiedAt
set_option linter.all false
set_option maxRecDepth 100000
namespace Go.Proofs.YtepjcfcfpjhpgaaGreatDoor
open Go.RowKit
theorem jf4_1:(laidOutB Tryz.pinned.checked.prog)=true:=by kernel_rfl
end Go.Proofs.YtepjcfcfpjhpgaaGreatDoor
namespace Go.Proofs.YtepjcfcfpjhpgaaGreatDoor
open Go.RowKit
theorem jf4_2:(mapsRowed Tryz.pinned.checked.prog)=true:=by kernel_rfl
end Go.Proofs.YtepjcfcfpjhpgaaGreatDoor
namespace Go.Proofs.YtepjcfcfpjhpgaaGreatDoor
open Go.RowKit
theorem jc_main:Tryz.pinned.checked.prog.mainIs=some (true, "ac882a71bebfea4921878b0d354a7c74cf3a05f0a379a9467374552456511238".toList):=by kernel_rfl
theorem jc_wf:Rows.proofContentsRow.wfByText (OpenSpec.ofChange Rows.proofContentsSpec)=true:=by kernel_rfl
theorem jc_stand:([44,9].all fun u=>!Tryz.prog.wantsStandIn u)=true:=by kernel_rfl
end Go.Proofs.YtepjcfcfpjhpgaaGreatDoor
namespace Go.Proofs.YtepjcfcfpjhpgaaGreatDoor
open Go.RowKit
theorem jf4_0:(Rows.proofContentsRow.wf (OpenSpec.ofChange Rows.proofContentsSpec))=true:=by kernel_rfl
theorem jf4_3:(Tryz.f4.params.all (Tryz.pinned.checked.prog.readableRec ·))=true:=by kernel_rfl
theorem jf4_4:(namedTie Tryz.pinned.checked.prog Rows.proofContentsRow.named Rows.proofContentsSpec.vars)=true:=by kernel_rfl
theorem jf4_5:((Rows.proofContentsRow.stops == []))=true:=by kernel_rfl
theorem jf4_6:((Tryz.pinned.checked.prog.stops == []))=true:=by kernel_rfl
theorem jf4_7:((Rows.proofContentsRow.knobs == []))=true:=by kernel_rfl
theorem jf4_8:((Tryz.pinned.checked.prog.stopKnobs == []))=true:=by kernel_rfl
theorem jf4_13:((Rows.proofContentsRow.maps == (Tryz.f4.params.toList++Rows.proofContentsSpec.plain.varTypes Tryz.pinned.checked.prog).any (Tryz.pinned.checked.prog.mapsRec ·)))=true:=by kernel_rfl
theorem jf4_14:((Rows.proofContentsRow.ifaces == (Tryz.f4.params.toList++Rows.proofContentsSpec.plain.varTypes Tryz.pinned.checked.prog).any (Tryz.pinned.checked.prog.ifacesRec ·)))=true:=by kernel_rfl
theorem jf4_15:((Rows.proofContentsRow.mapsOut == Tryz.pinned.checked.prog.mapsAmong Tryz.f4.resultTypes.toList))=true:=by kernel_rfl
theorem jf4_16:((Rows.proofContentsRow.loops == (Tryz.f4.params.toList++Rows.proofContentsSpec.plain.varTypes Tryz.pinned.checked.prog).any (Tryz.pinned.checked.prog.loopsFrom ·)))=true:=by kernel_rfl
theorem jf4_17:((Rows.proofContentsRow.wideKeys == (Tryz.f4.params.toList++Rows.proofContentsSpec.plain.varTypes Tryz.pinned.checked.prog++Tryz.f4.resultTypes.toList).any (Tryz.pinned.checked.prog.wideKeysFrom ·)))=true:=by kernel_rfl
theorem jf4_18:(Rows.proofContentsSpec.vars.all (Tryz.pinned.checked.prog.varReadable ·))=true:=by kernel_rfl
theorem jf4_19:(Tryz.f4.resultTypes.all (fun t=>Tryz.pinned.checked.prog.readableRec t&&decide (t<Tryz.pinned.checked.prog.types.size)))=true:=by kernel_rfl
theorem jf4_20:((Rows.proofContentsRow.ifacesOut == Tryz.f4.resultTypes.toList.any (Tryz.pinned.checked.prog.ifacesRec ·)))=true:=by kernel_rfl
theorem jf4_21:((Rows.proofContentsRow.loopsOut == Tryz.f4.resultTypes.toList.any (Tryz.pinned.checked.prog.loopsFrom ·)))=true:=by kernel_rfl
theorem jf4_22:((Rows.proofContentsRow.plainKeys == Tryz.pinned.checked.prog.plainKeys))=true:=by kernel_rfl
theorem jf4_23:(Rows.proofContentsRow.shortTexts.isNone)=true:=by kernel_rfl
theorem jf4_24:(Tryz.pinned.checked.prog.stopsHeard)=true:=by kernel_rfl
theorem jf4_25:(Tryz.pinned.checked.prog.mayEnter)=true:=by kernel_rfl
theorem jf4_26:((Rows.proofContentsRow.lifted == Tryz.pinned.checked.prog.liftsFinal))=true:=by kernel_rfl
theorem jf4_27:((Tryz.pinned.checked.prog.make == some Rows.proofContentsRow.make))=true:=by kernel_rfl
theorem jf4_28:((Rows.proofContentsRow.kinds == (if Rows.proofContentsRow.domain.isEmpty then []else Tryz.f4.params.toList.map fun t=>match Tryz.pinned.checked.prog.underlying t with|some (.int k)=>some k|_=>none)))=true:=by kernel_rfl
theorem jf4_29:((Rows.proofContentsRow.pinned == Rows.proofContentsRow.pinnedBy))=true:=by kernel_rfl
theorem jf4_30:((Rows.proofContentsRow.veiled == (Tryz.f4.params.toList++Rows.proofContentsSpec.plain.varTypes Tryz.pinned.checked.prog++Tryz.f4.resultTypes.toList).any (Tryz.pinned.checked.prog.veiledRec ·)))=true:=by kernel_rfl
theorem jf4_31:(Rows.proofContentsRow.veiledFits Tryz.pinned.checked.prog Tryz.f4.params.toList (Tryz.f4.params.toList++Rows.proofContentsSpec.plain.varTypes Tryz.pinned.checked.prog++Tryz.f4.resultTypes.toList))=true:=by kernel_rfl
end Go.Proofs.YtepjcfcfpjhpgaaGreatDoor

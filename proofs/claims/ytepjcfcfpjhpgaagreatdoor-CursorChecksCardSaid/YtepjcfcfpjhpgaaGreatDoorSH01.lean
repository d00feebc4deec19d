/- What is proved: CursorChecks: Check returns what the specification returns, Start and End are the cursors in front of and behind a tree, Visits returns what the specification returns: the tied card, in full ('cursorChecks_holds'). Conditions: none beside the card's own. -/
import Derived.Test.YtepjcfcfpjhpgaaGreatDoorSG01
import Derived.Test.YtepjcfcfpjhpgaaGreatDoorSG02
import Derived.Test.YtepjcfcfpjhpgaaGreatDoorSG03
import Derived.Test.YtepjcfcfpjhpgaaGreatDoorSG04
import Derived.Test.YtepjcfcfpjhpgaaGreatDoorSG05
import Derived.Test.YtepjcfcfpjhpgaaGreatDoorSF03
import Derived.Test.YtepjcfcfpjhpgaaGreatDoorSG06
import Derived.Test.YtepjcfcfpjhpgaaGreatDoorSG07
set_option linter.all false
set_option maxRecDepth 100000
namespace Go.Proofs.YtepjcfcfpjhpgaaGreatDoor
open Go.RowKit
theorem and2{a b:Bool} (h:a=true) (k:b=true):(a&&b)=true:=by rw[h,k];rfl
theorem jf3:joinedFacts Tryz.pinned.checked.prog 3 Tryz.f3 Rows.cursorChecksSpec Rows.cursorChecksRow=true:=(and2 (and2 (and2 (and2 (and2 (and2 (and2 (and2 (and2 (and2 (and2 (and2 (and2 (and2 (and2 (and2 (and2 (and2 (and2 (and2 (and2 (and2 (and2 (and2 (and2 (and2 (and2 (and2 (and2 (and2 (and2 jf3_0 jf3_1) jf3_2) jf3_3) jf3_4) jf3_5) jf3_6) jf3_7) jf3_8) jf3_9) jf3_10) jf3_11) jf3_12) jf3_13) jf3_14) jf3_15) jf3_16) jf3_17) jf3_18) jf3_19) jf3_20) jf3_21) jf3_22) jf3_23) jf3_24) jf3_25) jf3_26) jf3_27) jf3_28) jf3_29) jf3_30) jf3_31)
end Go.Proofs.YtepjcfcfpjhpgaaGreatDoor
namespace Go.Proofs.YtepjcfcfpjhpgaaGreatDoor
open Go.Ai Go.RowKit Go.ChangeShapes Go.WideShapes Go.ChangeAt Go.ChangeMaps
theorem cursorChecks_row:Rows.CursorChecksSaid:=
 OpenClaim.holds_of_wide 3 Tryz.f3 rfl rfl rfl rfl rfl rfl rfl ⟨rfl,rfl,rfl,rfl,rfl⟩ rfl rfl rfl rfl rfl (by kernel_rfl) Tryz.func3 jf3
  (of_decide_eq_true (by kernel_rfl)) (by unfold Func.isWrapper;first|(rw[if_pos (by decide +kernel)];kernel_rfl)|(rw[if_neg (by decide +kernel)];exact⟨rfl,rfl⟩))
  (fun os started H enc _=>lifted3 os started H enc)
end Go.Proofs.YtepjcfcfpjhpgaaGreatDoor
namespace Go.Proofs.YtepjcfcfpjhpgaaGreatDoor
open Go.Ai Go.RowKit Go.ChangeShapes Go.WideShapes Go.ChangeAt Go.ChangeMaps
theorem cursorChecks_holds:Rows.CursorChecksCardSaid:=
 Claim7.holds_tied_plain_at .later [] [.data] true (true, "ac882a71bebfea4921878b0d354a7c74cf3a05f0a379a9467374552456511238") true
  cursorChecks_row (fun _ h=>by cases h) jc_wf (fun _ h=>by cases h) cursorChecks_row_tie rfl ⟨rfl,rfl⟩ jc_main rfl
  (fun f fn hf hfn=>by
   obtain rfl:f=3:=Option.some.inj ((show Tryz.prog.funcNamed "understory/understorylaw08.CursorChecks" = some 3 by kernel_rfl).symm.trans hf) |>.symm
   obtain rfl:fn=Tryz.f3:=(Option.some.inj (Tryz.func3.symm.trans hfn)).symm
   exact⟨jc_looks,fun j t ht=>by
    rw[par3]at ht
    have hm:t ∈ [25,32,32]:=by simpa using Array.mem_of_getElem? ht
    have hall:=jc_stand
    exact(show Tryz.prog.wantsStandIn t=false by simpa using List.all_eq_true.1 hall t hm)⟩)
  jc_goes
#print axioms cursorChecks_holds
end Go.Proofs.YtepjcfcfpjhpgaaGreatDoor

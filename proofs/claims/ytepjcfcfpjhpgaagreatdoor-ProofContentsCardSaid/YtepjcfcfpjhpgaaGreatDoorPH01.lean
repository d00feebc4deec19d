/- What is proved: the row ProofContentsSaid and the tied card ProofContentsCardSaid. Conditions: none. -/
import Derived.Test.YtepjcfcfpjhpgaaGreatDoorPG01
import Derived.Test.YtepjcfcfpjhpgaaGreatDoorPG02
import Derived.Test.YtepjcfcfpjhpgaaGreatDoorPG03
import Derived.Test.YtepjcfcfpjhpgaaGreatDoorPG04
import Derived.Test.YtepjcfcfpjhpgaaGreatDoorPG05
import Derived.Test.YtepjcfcfpjhpgaaGreatDoorRows
import Derived.RowKit
import Derived.SevenTiedAt
import Derived.KernelRfl
import Derived.Test.YtepjcfcfpjhpgaaGreatDoorPF03
import Derived.Test.YtepjcfcfpjhpgaaGreatDoorPG06
set_option linter.all false
set_option maxRecDepth 100000
namespace Go.Proofs.YtepjcfcfpjhpgaaGreatDoor
open Go.RowKit
theorem and2{a b:Bool} (h:a=true) (k:b=true):(a&&b)=true:=by rw[h,k];rfl
theorem jf4:joinedFacts Tryz.pinned.checked.prog 4 Tryz.f4 Rows.proofContentsSpec Rows.proofContentsRow=true:=(and2 (and2 (and2 (and2 (and2 (and2 (and2 (and2 (and2 (and2 (and2 (and2 (and2 (and2 (and2 (and2 (and2 (and2 (and2 (and2 (and2 (and2 (and2 (and2 (and2 (and2 (and2 (and2 (and2 (and2 (and2 jf4_0 jf4_1) jf4_2) jf4_3) jf4_4) jf4_5) jf4_6) jf4_7) jf4_8) jf4_9) jf4_10) jf4_11) jf4_12) jf4_13) jf4_14) jf4_15) jf4_16) jf4_17) jf4_18) jf4_19) jf4_20) jf4_21) jf4_22) jf4_23) jf4_24) jf4_25) jf4_26) jf4_27) jf4_28) jf4_29) jf4_30) jf4_31)
end Go.Proofs.YtepjcfcfpjhpgaaGreatDoor
namespace Go.Proofs.YtepjcfcfpjhpgaaGreatDoor
open Go.RowKit
theorem jc_looks:true=Tryz.pinned.checked.prog.looks []:=by kernel_rfl
end Go.Proofs.YtepjcfcfpjhpgaaGreatDoor
namespace Go.Proofs.YtepjcfcfpjhpgaaGreatDoor
open Go.Ai Go.RowKit Go.ChangeShapes Go.WideShapes Go.ChangeAt Go.ChangeMaps
theorem proofContents_row:Rows.ProofContentsSaid:=
 OpenClaim.holds_of_wide 4 Tryz.f4 rfl rfl rfl rfl rfl rfl rfl ⟨rfl,rfl,rfl,rfl,rfl⟩ rfl rfl rfl rfl rfl (by kernel_rfl) Tryz.func4 jf4
  (of_decide_eq_true (by kernel_rfl)) (by unfold Func.isWrapper;first|(rw[if_pos (by decide +kernel)];kernel_rfl)|(rw[if_neg (by decide +kernel)];exact⟨rfl,rfl⟩))
  (fun os started H enc _=>lifted4 os started H enc)
end Go.Proofs.YtepjcfcfpjhpgaaGreatDoor
namespace Go.Proofs.YtepjcfcfpjhpgaaGreatDoor
open Go.Ai Go.RowKit Go.ChangeShapes Go.WideShapes Go.ChangeAt Go.ChangeMaps
theorem proofContents_holds:Rows.ProofContentsCardSaid:=
 Claim7.holds_tied_plain_at .later [] [.data] true (true, "ac882a71bebfea4921878b0d354a7c74cf3a05f0a379a9467374552456511238") true
  proofContents_row (fun _ h=>by cases h) jc_wf (fun _ h=>by cases h) proofContents_row_tie rfl ⟨rfl,rfl⟩ jc_main rfl
  (fun f fn hf hfn=>by
   obtain rfl:f=4:=Option.some.inj ((show Tryz.prog.funcNamed "understory/understorylaw18.ProofContents" = some 4 by kernel_rfl).symm.trans hf) |>.symm
   obtain rfl:fn=Tryz.f4:=(Option.some.inj (Tryz.func4.symm.trans hfn)).symm
   exact⟨jc_looks,fun j t ht=>by
    rw[par4]at ht
    have hm:t ∈ [44,9]:=by simpa using Array.mem_of_getElem? ht
    have hall:=jc_stand
    exact(show Tryz.prog.wantsStandIn t=false by simpa using List.all_eq_true.1 hall t hm)⟩)
  jc_goes
#print axioms proofContents_holds
end Go.Proofs.YtepjcfcfpjhpgaaGreatDoor

/- What is proved: CheckUpdate of the examples, by runs. Conditions: none. -/
import Derived.Test.YtepjcfcfpjhpgaaGreatDoorPE10
set_option linter.all false
namespace Go.Proofs
open Go Go.Ai
set_option maxRecDepth 1000000
def cuA0:List AV:=[.p luT,.sl 0 0 5 0 1,.sl 1 0 10 0 1,.p luU]
def cuH0:List Ob:=[.row 111 5 [.agg [.str [99],.bool false,.bool true,.str [],.str [122]]] true 0,.row 62 10 [luP] false 0]
def cuV0:AV:=.p (.int .i64 (.ofNat 0))
theorem cuR0:fitIs cuH0 (callN cx luOrc 1000000 (.fn 51 cuA0) cuH0 none) cuV0=true:=by decide +kernel
def cuA1:List AV:=[.p luT,.sl 0 0 5 0 1,.sl 1 0 10 0 1,.p luT]
def cuH1:List Ob:=[.row 111 5 [.agg [.str [99],.bool false,.bool true,.str [],.str [122]]] true 0,.row 62 10 [luP] false 0]
def cuV1:AV:=.p (.int .i64 (.ofNat 9))
theorem cuR1:fitIs cuH1 (callN cx luOrc 1000000 (.fn 51 cuA1) cuH1 none) cuV1=true:=by decide +kernel
noncomputable def cuTab:List Run1:=[⟨cuA0,cuH0,cuV0,cuH0⟩,⟨cuA1,cuH1,cuV1,cuH1⟩]
noncomputable def cuOrc:Orc:=memoG 51 cuTab KSnOrc
theorem cuOrc_ok:OrcOk cx Tryz.prog cuOrc:=by
 refine memoG_ok KSnOrc_ok fun r hr=>?_
 simp only[cuTab,List.mem_cons,List.not_mem_nil,or_false]at hr
 rcases hr with rfl|rfl
 ·exact fitIs_ok cx_ok luOrc_ok cuR0
 ·exact fitIs_ok cx_ok luOrc_ok cuR1
end Go.Proofs

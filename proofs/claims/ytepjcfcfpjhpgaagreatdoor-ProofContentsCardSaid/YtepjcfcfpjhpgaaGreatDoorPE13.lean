/- What is proved: the examples of the law come to true ('sane18_ok'). Conditions: none. -/
import Derived.Test.YtepjcfcfpjhpgaaGreatDoorPE11
set_option linter.all false
namespace Go.Proofs
open Go Go.Ai
set_option maxRecDepth 1000000
theorem sane18_run:retIs (callN cx cuOrc 1000000 (.fn 17 []) [] none) (.p (.bool true))=true:=by decide +kernel
theorem sane18_ok:CallAt cx Tryz.prog (.fn 17 []) [] none (.ret (.p (.bool true))) [] none:=memo_ok cx_ok cuOrc_ok sane18_run rfl
end Go.Proofs

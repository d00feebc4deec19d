/- What is proved: the examples of chapter 8 come to true, by a run. Conditions: none. -/
import Derived.Test.YtepjcfcfpjhpgaaGreatDoorSE10
set_option linter.all false
namespace Go.Proofs
open Go Go.Ai
set_option maxRecDepth 1000000
theorem sane08_run:retIs (callN cx KSrOrc 1000000 (.fn 7 []) [] none) (.p (.bool true))=true:=by decide +kernel
theorem sane08_ok:CallAt cx Tryz.prog (.fn 7 []) [] none (.ret (.p (.bool true))) [] none:=memo_ok cx_ok KSrOrc_ok sane08_run rfl
end Go.Proofs

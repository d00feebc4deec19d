/- What is proved: the examples of chapter 7 come to true, by a run. Conditions: none. -/
import Derived.Test.YtjajjhfbdfdfnaaGreatSE06
set_option linter.all false
namespace Go.Proofs
open Go Go.Ai
set_option maxRecDepth 1000000
theorem sane07_run : retIs (callN cx KTreeOrc 1000000 (.fn 13 []) [] none) (.p (.bool true)) = true := by decide +kernel
theorem sane13_ok : CallAt cx Tryz.prog (.fn 13 []) [] none (.ret (.p (.bool true))) [] none := memo_ok cx_ok KTreeOrc46_ok sane07_run rfl
end Go.Proofs

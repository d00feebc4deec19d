/- What is proved: Store and PutEntry of the examples' update, by runs upon a space that is told in part. Conditions: none. -/
import Derived.Test.YtepjcfcfpjhpgaaGreatDoorPE07
set_option linter.all false
namespace Go.Proofs
open Go Go.Ai
set_option maxRecDepth 1000000
theorem luR141:fitIs [] (callN cx lu2 1000000 (.fn 141 [.p luS,.p (.str [99]),.p (.str [122])]) [] none) (.tup [.p luS,.p luX,.p (.int .i64 0)])=true:=by decide +kernel
theorem luR142:fitIs [] (callN cx lu2 1000000 (.fn 142 [.p luS,.p luT,.p luX]) [] none) (.tup [.agg [.un,.un,.un,.un,.un,.un],.p luU,.p (.int .i64 0)])=true:=by decide +kernel
end Go.Proofs

/- What is proved: the examples of chapter 10 come to true, by a run. Conditions: none. -/
import Derived.Test.YtjajjhfbdfdfnaaGreatE05
set_option linter.all false
set_option linter.unusedVariables false
set_option linter.unusedSimpArgs false
set_option linter.unnecessarySimpa false
set_option linter.deprecated false
namespace Go.Proofs
open Go Go.Ai
set_option maxRecDepth 1000000
noncomputable abbrev saneOrc : Orc := KAddOrc
theorem saneOrc_ok : OrcOk cx Tryz.prog saneOrc := KAddOrc24_ok
theorem sane10_run : retIs (callN cx saneOrc 1000000 (.fn 6 []) [] none) (.p (.bool true)) = true := by decide +kernel
end Go.Proofs

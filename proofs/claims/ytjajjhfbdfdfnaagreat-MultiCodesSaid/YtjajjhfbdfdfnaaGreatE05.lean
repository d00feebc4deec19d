/- What is proved: these calls as a memory of calls. Conditions: none. -/
import Derived.Test.YtjajjhfbdfdfnaaGreatE03
import Derived.Test.YtjajjhfbdfdfnaaGreatE04
set_option linter.all false
set_option linter.unusedVariables false
set_option linter.unusedSimpArgs false
set_option linter.unnecessarySimpa false
set_option linter.deprecated false
namespace Go.Proofs
open Go Go.Ai
noncomputable def KAddTab24 : List Run1 := [⟨KAddA0, KAddH0, KAddV0, KAddW0⟩, ⟨KAddA1, KAddH1, KAddV1, KAddW1⟩, ⟨KAddA2, KAddH2, KAddV2, KAddW2⟩, ⟨KAddA3, KAddH3, KAddV3, KAddW3⟩, ⟨KAddA4, KAddH4, KAddV4, KAddW4⟩, ⟨KAddA5, KAddH5, KAddV5, KAddW5⟩, ⟨KAddA6, KAddH6, KAddV6, KAddW6⟩]
noncomputable def KAddOrc24 : Orc := memoG 24 KAddTab24 sumOrc
theorem KAddOrc24_ok : OrcOk cx Tryz.prog KAddOrc24 := by
  refine memoG_ok sumOrc_ok fun r hr => ?_
  simp only [KAddTab24, List.mem_cons, List.not_mem_nil, or_false] at hr
  rcases hr with rfl | rfl | rfl | rfl | rfl | rfl | rfl
  · exact run1_ok (r := ⟨KAddA0, KAddH0, KAddV0, KAddW0⟩) cx_ok sumOrc_ok KAddR0
  · exact run1_ok (r := ⟨KAddA1, KAddH1, KAddV1, KAddW1⟩) cx_ok sumOrc_ok KAddR1
  · exact run1_ok (r := ⟨KAddA2, KAddH2, KAddV2, KAddW2⟩) cx_ok sumOrc_ok KAddR2
  · exact run1_ok (r := ⟨KAddA3, KAddH3, KAddV3, KAddW3⟩) cx_ok sumOrc_ok KAddR3
  · exact run1_ok (r := ⟨KAddA4, KAddH4, KAddV4, KAddW4⟩) cx_ok sumOrc_ok KAddR4
  · exact run1_ok (r := ⟨KAddA5, KAddH5, KAddV5, KAddW5⟩) cx_ok sumOrc_ok KAddR5
  · exact run1_ok (r := ⟨KAddA6, KAddH6, KAddV6, KAddW6⟩) cx_ok sumOrc_ok KAddR6
/-- The whole memory. -/
noncomputable abbrev KAddOrc : Orc := KAddOrc24
end Go.Proofs

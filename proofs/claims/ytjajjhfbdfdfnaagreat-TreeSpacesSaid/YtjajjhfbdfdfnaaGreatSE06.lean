/- What is proved: these calls as a memory of calls. Conditions: none. -/
import Derived.Test.YtjajjhfbdfdfnaaGreatSE03
import Derived.Test.YtjajjhfbdfdfnaaGreatSE04
import Derived.Test.YtjajjhfbdfdfnaaGreatSE05
set_option linter.all false
namespace Go.Proofs
open Go Go.Ai
noncomputable def KTreeTab37 : List Run1 := [⟨KTreeA0, KTreeH0, KTreeV0, KTreeW0⟩, ⟨KTreeA1, KTreeH1, KTreeV1, KTreeW1⟩, ⟨KTreeA2, KTreeH2, KTreeV2, KTreeW2⟩, ⟨KTreeA5, KTreeH5, KTreeV5, KTreeW5⟩]
noncomputable def KTreeOrc37 : Orc := memoG 37 KTreeTab37 sumOrc
noncomputable def KTreeTab39 : List Run1 := [⟨KTreeA3, KTreeH3, KTreeV3, KTreeW3⟩]
noncomputable def KTreeOrc39 : Orc := memoG 39 KTreeTab39 KTreeOrc37
noncomputable def KTreeTab40 : List Run1 := [⟨KTreeA4, KTreeH4, KTreeV4, KTreeW4⟩, ⟨KTreeA7, KTreeH7, KTreeV7, KTreeW7⟩]
noncomputable def KTreeOrc40 : Orc := memoG 40 KTreeTab40 KTreeOrc39
noncomputable def KTreeTab46 : List Run1 := [⟨KTreeA6, KTreeH6, KTreeV6, KTreeW6⟩]
noncomputable def KTreeOrc46 : Orc := memoG 46 KTreeTab46 KTreeOrc40
theorem KTreeOrc37_ok : OrcOk cx Tryz.prog KTreeOrc37 := by
 refine memoG_ok sumOrc_ok fun r hr => ?_
 simp only [KTreeTab37, List.mem_cons, List.not_mem_nil, or_false] at hr
 rcases hr with rfl | rfl | rfl | rfl
 ·exact run1_ok (r := ⟨KTreeA0, KTreeH0, KTreeV0, KTreeW0⟩) cx_ok sumOrc_ok KTreeR0
 ·exact run1_ok (r := ⟨KTreeA1, KTreeH1, KTreeV1, KTreeW1⟩) cx_ok sumOrc_ok KTreeR1
 ·exact run1_ok (r := ⟨KTreeA2, KTreeH2, KTreeV2, KTreeW2⟩) cx_ok sumOrc_ok KTreeR2
 ·exact run1_ok (r := ⟨KTreeA5, KTreeH5, KTreeV5, KTreeW5⟩) cx_ok sumOrc_ok KTreeR5
theorem KTreeOrc39_ok : OrcOk cx Tryz.prog KTreeOrc39 := by
 refine memoG_ok KTreeOrc37_ok fun r hr => ?_
 simp only [KTreeTab39, List.mem_cons, List.not_mem_nil, or_false] at hr
 rcases hr with rfl
 ·exact run1_ok (r := ⟨KTreeA3, KTreeH3, KTreeV3, KTreeW3⟩) cx_ok sumOrc_ok KTreeR3
theorem KTreeOrc40_ok : OrcOk cx Tryz.prog KTreeOrc40 := by
 refine memoG_ok KTreeOrc39_ok fun r hr => ?_
 simp only [KTreeTab40, List.mem_cons, List.not_mem_nil, or_false] at hr
 rcases hr with rfl | rfl
 ·exact run1_ok (r := ⟨KTreeA4, KTreeH4, KTreeV4, KTreeW4⟩) cx_ok sumOrc_ok KTreeR4
 ·exact run1_ok (r := ⟨KTreeA7, KTreeH7, KTreeV7, KTreeW7⟩) cx_ok sumOrc_ok KTreeR7
theorem KTreeOrc46_ok : OrcOk cx Tryz.prog KTreeOrc46 := by
 refine memoG_ok KTreeOrc40_ok fun r hr => ?_
 simp only [KTreeTab46, List.mem_cons, List.not_mem_nil, or_false] at hr
 rcases hr with rfl
 ·exact run1_ok (r := ⟨KTreeA6, KTreeH6, KTreeV6, KTreeW6⟩) cx_ok sumOrc_ok KTreeR6
noncomputable abbrev KTreeOrc : Orc := KTreeOrc46
end Go.Proofs

/- What is proved: the specification's blocks that the examples need, together. Conditions: none. -/
import Derived.Test.YtepjcfcfpjhpgaaGreatDoorSE02
import Derived.Test.YtepjcfcfpjhpgaaGreatDoorSE03
import Derived.Test.YtepjcfcfpjhpgaaGreatDoorSE04
import Derived.Test.YtepjcfcfpjhpgaaGreatDoorSE05
import Derived.Test.YtepjcfcfpjhpgaaGreatDoorSE06
import Derived.Test.YtepjcfcfpjhpgaaGreatDoorSE07
import Derived.Test.YtepjcfcfpjhpgaaGreatDoorSE08
set_option linter.all false
namespace Go.Proofs
open Go Go.Ai
noncomputable def KBlTab257:List Run1:=[⟨KBlA0,KBlH0,KBlV0,KBlW0⟩,⟨KBlA1,KBlH1,KBlV1,KBlW1⟩,⟨KBlA2,KBlH2,KBlV2,KBlW2⟩,⟨KBlA3,KBlH3,KBlV3,KBlW3⟩,⟨KBlA4,KBlH4,KBlV4,KBlW4⟩,⟨KBlA5,KBlH5,KBlV5,KBlW5⟩,⟨KBlA6,KBlH6,KBlV6,KBlW6⟩]
noncomputable def KBlOrc257:Orc:=memoG 257 KBlTab257 sumOrc
theorem KBlOrc257_ok:OrcOk cx Tryz.prog KBlOrc257:=by
 refine memoG_ok sumOrc_ok fun r hr=>?_
 simp only[KBlTab257,List.mem_cons,List.not_mem_nil,or_false]at hr
 rcases hr with rfl|rfl|rfl|rfl|rfl|rfl|rfl
 ·exact run1_ok (r:=⟨KBlA0,KBlH0,KBlV0,KBlW0⟩) cx_ok sumOrc_ok KBlR0
 ·exact run1_ok (r:=⟨KBlA1,KBlH1,KBlV1,KBlW1⟩) cx_ok sumOrc_ok KBlR1
 ·exact run1_ok (r:=⟨KBlA2,KBlH2,KBlV2,KBlW2⟩) cx_ok sumOrc_ok KBlR2
 ·exact run1_ok (r:=⟨KBlA3,KBlH3,KBlV3,KBlW3⟩) cx_ok sumOrc_ok KBlR3
 ·exact run1_ok (r:=⟨KBlA4,KBlH4,KBlV4,KBlW4⟩) cx_ok sumOrc_ok KBlR4
 ·exact run1_ok (r:=⟨KBlA5,KBlH5,KBlV5,KBlW5⟩) cx_ok sumOrc_ok KBlR5
 ·exact run1_ok (r:=⟨KBlA6,KBlH6,KBlV6,KBlW6⟩) cx_ok sumOrc_ok KBlR6
noncomputable abbrev KBlOrc:Orc:=KBlOrc257
theorem KBlOrc_ok:OrcOk cx Tryz.prog KBlOrc:=KBlOrc257_ok
end Go.Proofs

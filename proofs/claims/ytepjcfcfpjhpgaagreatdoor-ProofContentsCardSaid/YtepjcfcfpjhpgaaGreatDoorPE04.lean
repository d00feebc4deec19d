/- What is proved: the blocks together, as contracts in place of runs. Conditions: none. -/
import Derived.Test.YtepjcfcfpjhpgaaGreatDoorPE02
import Derived.Test.YtepjcfcfpjhpgaaGreatDoorPE03
set_option linter.all false
namespace Go.Proofs
open Go Go.Ai
noncomputable def KBmTab257:List Run1:=[⟨KBmA0,KBmH0,KBmV0,KBmW0⟩,⟨KBmA1,KBmH1,KBmV1,KBmW1⟩,⟨KBmA2,KBmH2,KBmV2,KBmW2⟩,⟨KBmA3,KBmH3,KBmV3,KBmW3⟩]
noncomputable def KBmOrc257:Orc:=memoG 257 KBmTab257 smOrc
theorem KBmOrc257_ok:OrcOk cx Tryz.prog KBmOrc257:=by
 refine memoG_ok smOrc_ok fun r hr=>?_
 simp only[KBmTab257,List.mem_cons,List.not_mem_nil,or_false]at hr
 rcases hr with rfl|rfl|rfl|rfl
 ·exact run1_ok (r:=⟨KBmA0,KBmH0,KBmV0,KBmW0⟩) cx_ok smOrc_ok KBmR0
 ·exact run1_ok (r:=⟨KBmA1,KBmH1,KBmV1,KBmW1⟩) cx_ok smOrc_ok KBmR1
 ·exact run1_ok (r:=⟨KBmA2,KBmH2,KBmV2,KBmW2⟩) cx_ok smOrc_ok KBmR2
 ·exact run1_ok (r:=⟨KBmA3,KBmH3,KBmV3,KBmW3⟩) cx_ok smOrc_ok KBmR3
noncomputable abbrev KBmOrc:Orc:=KBmOrc257
theorem KBmOrc_ok:OrcOk cx Tryz.prog KBmOrc:=KBmOrc257_ok
end Go.Proofs

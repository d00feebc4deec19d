/- What is proved: the digests together; the space of 4096 pages of the examples' update. Conditions: none. -/
import Derived.Test.YtepjcfcfpjhpgaaGreatDoorPE05
import Derived.Test.YtepjcfcfpjhpgaaGreatDoorPE06
import Derived.Test.YtepjcfcfpjhpgaaGreatDoorPA12
set_option linter.all false
namespace Go.Proofs
open Go Go.Ai
noncomputable def KSnTab47:List Run1:=[⟨KSnA0,KSnH0,KSnV0,KSnW0⟩,⟨KSnA1,KSnH1,KSnV1,KSnW1⟩,⟨KSnA2,KSnH2,KSnV2,KSnW2⟩,⟨KSnA3,KSnH3,KSnV3,KSnW3⟩]
noncomputable def KSnOrc47:Orc:=memoG 47 KSnTab47 KBmOrc
theorem KSnOrc47_ok:OrcOk cx Tryz.prog KSnOrc47:=by
 refine memoG_ok KBmOrc_ok fun r hr=>?_
 simp only[KSnTab47,List.mem_cons,List.not_mem_nil,or_false]at hr
 rcases hr with rfl|rfl|rfl|rfl
 ·exact run1_ok (r:=⟨KSnA0,KSnH0,KSnV0,KSnW0⟩) cx_ok KBmOrc_ok KSnR0
 ·exact run1_ok (r:=⟨KSnA1,KSnH1,KSnV1,KSnW1⟩) cx_ok KBmOrc_ok KSnR1
 ·exact run1_ok (r:=⟨KSnA2,KSnH2,KSnV2,KSnW2⟩) cx_ok KBmOrc_ok KSnR2
 ·exact run1_ok (r:=⟨KSnA3,KSnH3,KSnV3,KSnW3⟩) cx_ok KBmOrc_ok KSnR3
noncomputable abbrev KSnOrc:Orc:=KSnOrc47
theorem KSnOrc_ok:OrcOk cx Tryz.prog KSnOrc:=KSnOrc47_ok
set_option maxRecDepth 1000000
def luL:List PV:=[.int .i64 (.ofNat 1),.int .i64 (.ofNat 1),.int .i64 (.ofNat 0),.bool true,.vec 22 [.agg [.str [97],.str [121],.int .i64 (.ofNat 0),.int .i64 (.ofNat 0),.int .i64 (.ofNat 0),.int .i64 (.ofNat 0),.int .u8 (.ofNat 0),.int .u8 (.ofNat 0),.int .u8 (.ofNat 0),.int .u8 (.ofNat 0),.int .u8 (.ofNat 0),.int .u8 (.ofNat 0),.int .u8 (.ofNat 0),.int .u8 (.ofNat 0),.int .u8 (.ofNat 0),.int .u8 (.ofNat 0),.int .u8 (.ofNat 0),.int .u8 (.ofNat 0),.int .u8 (.ofNat 0),.int .u8 (.ofNat 0),.int .u8 (.ofNat 0),.int .u8 (.ofNat 0)],.agg [.str [98],.str [120],.int .i64 (.ofNat 0),.int .i64 (.ofNat 0),.int .i64 (.ofNat 0),.int .i64 (.ofNat 0),.int .u8 (.ofNat 0),.int .u8 (.ofNat 0),.int .u8 (.ofNat 0),.int .u8 (.ofNat 0),.int .u8 (.ofNat 0),.int .u8 (.ofNat 0),.int .u8 (.ofNat 0),.int .u8 (.ofNat 0),.int .u8 (.ofNat 0),.int .u8 (.ofNat 0),.int .u8 (.ofNat 0),.int .u8 (.ofNat 0),.int .u8 (.ofNat 0),.int .u8 (.ofNat 0),.int .u8 (.ofNat 0),.int .u8 (.ofNat 0)]],.int .i64 (.ofNat 0),.str [],.nils]
def luT:PV:=.agg [.int .i64 (.ofNat 2),.int .i64 (.ofNat 2),.int .u8 (.ofNat 183),.int .u8 (.ofNat 0),.int .u8 (.ofNat 154),.int .u8 (.ofNat 174),.int .u8 (.ofNat 90),.int .u8 (.ofNat 193),.int .u8 (.ofNat 86),.int .u8 (.ofNat 226),.int .u8 (.ofNat 91),.int .u8 (.ofNat 112),.int .u8 (.ofNat 191),.int .u8 (.ofNat 73),.int .u8 (.ofNat 5),.int .u8 (.ofNat 1),.int .u8 (.ofNat 72),.int .u8 (.ofNat 232)]
def luU:PV:=.agg [.int .i64 (.ofNat 3),.int .i64 (.ofNat 3),.int .u8 (.ofNat 237),.int .u8 (.ofNat 40),.int .u8 (.ofNat 178),.int .u8 (.ofNat 38),.int .u8 (.ofNat 188),.int .u8 (.ofNat 112),.int .u8 (.ofNat 207),.int .u8 (.ofNat 120),.int .u8 (.ofNat 85),.int .u8 (.ofNat 202),.int .u8 (.ofNat 115),.int .u8 (.ofNat 221),.int .u8 (.ofNat 162),.int .u8 (.ofNat 170),.int .u8 (.ofNat 229),.int .u8 (.ofNat 225)]
def luX:PV:=.agg [.str [99],.str [122],.int .i64 (.ofNat 0),.int .i64 (.ofNat 0),.int .i64 (.ofNat 0),.int .i64 (.ofNat 0),.int .u8 (.ofNat 0),.int .u8 (.ofNat 0),.int .u8 (.ofNat 0),.int .u8 (.ofNat 0),.int .u8 (.ofNat 0),.int .u8 (.ofNat 0),.int .u8 (.ofNat 0),.int .u8 (.ofNat 0),.int .u8 (.ofNat 0),.int .u8 (.ofNat 0),.int .u8 (.ofNat 0),.int .u8 (.ofNat 0),.int .u8 (.ofNat 0),.int .u8 (.ofNat 0),.int .u8 (.ofNat 0),.int .u8 (.ofNat 0)]
def luZ:PV:=.agg [.int .i64 0,.int .i64 0,.int .i64 0,.int .i64 0,.int .i64 0,.bool false,.nils,.int .i64 0,.str [],.nils]
noncomputable def repK(n:Nat):List PV:=Nat.rec (motive:=fun _=>List PV) [] (fun _ ih=>luZ::ih) n
noncomputable def numK(n:Nat):Nat→List PV:=Nat.rec (motive:=fun _=>Nat→List PV) (fun _=>[]) (fun _ ih s=>.int .i64 (.ofNat s)::forceN (s+1) ih) n
def luP:PV:=.agg (.int .i64 1 :: .int .i64 2::luL)
noncomputable def luG:List PV:=luZ::luZ::luP::repK 4093
noncomputable def luF:List PV:=numK 4093 3
noncomputable def luS:PV:=.agg [.vec 10 luG,.vec 1 luF,.nils,.nils,.int .i64 1,.int .i64 1]
def luH:List Ob:=[.row 62 10 [luP] false 0]
noncomputable def lu1:Orc:=memoG 140 [⟨[.sl 0 0 10 0 1],luH,.p luS,luH⟩] KSnOrc
noncomputable def lu2:Orc:=memoA 83 [([luS],.int .i64 0)] lu1
end Go.Proofs

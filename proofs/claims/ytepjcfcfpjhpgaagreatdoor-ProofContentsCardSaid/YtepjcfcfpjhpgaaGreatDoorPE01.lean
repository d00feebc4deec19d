/- What is proved: the program's digests of the examples, by runs. Conditions: none. -/
import Derived.Test.YtepjcfcfpjhpgaaGreatDoorPC02
set_option linter.all false
namespace Go.Proofs
open Go Go.Ai
set_option maxRecDepth 1000000
def smI0_0:List UInt8:=[121]
def smV0_0:PV:=.agg [.int .u8 (.ofNat 161),.int .u8 (.ofNat 252),.int .u8 (.ofNat 228),.int .u8 (.ofNat 54),.int .u8 (.ofNat 56),.int .u8 (.ofNat 84),.int .u8 (.ofNat 255),.int .u8 (.ofNat 136),.int .u8 (.ofNat 140),.int .u8 (.ofNat 255),.int .u8 (.ofNat 75),.int .u8 (.ofNat 142),.int .u8 (.ofNat 120),.int .u8 (.ofNat 117),.int .u8 (.ofNat 214),.int .u8 (.ofNat 0)]
theorem smR0_0:retIs (callN cx blkOrc 1000000 (.fn 197 [.p (.str smI0_0)]) [] none) (.p smV0_0)=true:=by decide +kernel
def smI0_1:List UInt8:=[120]
def smV0_1:PV:=.agg [.int .u8 (.ofNat 45),.int .u8 (.ofNat 113),.int .u8 (.ofNat 22),.int .u8 (.ofNat 66),.int .u8 (.ofNat 183),.int .u8 (.ofNat 38),.int .u8 (.ofNat 176),.int .u8 (.ofNat 68),.int .u8 (.ofNat 1),.int .u8 (.ofNat 98),.int .u8 (.ofNat 124),.int .u8 (.ofNat 169),.int .u8 (.ofNat 251),.int .u8 (.ofNat 172),.int .u8 (.ofNat 50),.int .u8 (.ofNat 245)]
theorem smR0_1:retIs (callN cx blkOrc 1000000 (.fn 197 [.p (.str smI0_1)]) [] none) (.p smV0_1)=true:=by decide +kernel
def smI0_2:List UInt8:=[122]
def smV0_2:PV:=.agg [.int .u8 (.ofNat 89),.int .u8 (.ofNat 78),.int .u8 (.ofNat 81),.int .u8 (.ofNat 154),.int .u8 (.ofNat 228),.int .u8 (.ofNat 153),.int .u8 (.ofNat 49),.int .u8 (.ofNat 43),.int .u8 (.ofNat 41),.int .u8 (.ofNat 67),.int .u8 (.ofNat 59),.int .u8 (.ofNat 125),.int .u8 (.ofNat 216),.int .u8 (.ofNat 169),.int .u8 (.ofNat 127),.int .u8 (.ofNat 240)]
theorem smR0_2:retIs (callN cx blkOrc 1000000 (.fn 197 [.p (.str smI0_2)]) [] none) (.p smV0_2)=true:=by decide +kernel
def smI0_3:List UInt8:=[0,0,2,1,97,0,161,252,228,54,56,84,255,136,140,255,75,142,120,117,214,0,1,98,0,45,113,22,66,183,38,176,68,1,98,124,169,251,172,50,245]
def smV0_3:PV:=.agg [.int .u8 (.ofNat 183),.int .u8 (.ofNat 0),.int .u8 (.ofNat 154),.int .u8 (.ofNat 174),.int .u8 (.ofNat 90),.int .u8 (.ofNat 193),.int .u8 (.ofNat 86),.int .u8 (.ofNat 226),.int .u8 (.ofNat 91),.int .u8 (.ofNat 112),.int .u8 (.ofNat 191),.int .u8 (.ofNat 73),.int .u8 (.ofNat 5),.int .u8 (.ofNat 1),.int .u8 (.ofNat 72),.int .u8 (.ofNat 232)]
theorem smR0_3:retIs (callN cx blkOrc 1000000 (.fn 197 [.p (.str smI0_3)]) [] none) (.p smV0_3)=true:=by decide +kernel
def smI0_4:List UInt8:=[0,0,3,1,97,0,161,252,228,54,56,84,255,136,140,255,75,142,120,117,214,0,1,98,0,45,113,22,66,183,38,176,68,1,98,124,169,251,172,50,245,1,99,0,89,78,81,154,228,153,49,43,41,67,59,125,216,169,127,240]
def smV0_4:PV:=.agg [.int .u8 (.ofNat 237),.int .u8 (.ofNat 40),.int .u8 (.ofNat 178),.int .u8 (.ofNat 38),.int .u8 (.ofNat 188),.int .u8 (.ofNat 112),.int .u8 (.ofNat 207),.int .u8 (.ofNat 120),.int .u8 (.ofNat 85),.int .u8 (.ofNat 202),.int .u8 (.ofNat 115),.int .u8 (.ofNat 221),.int .u8 (.ofNat 162),.int .u8 (.ofNat 170),.int .u8 (.ofNat 229),.int .u8 (.ofNat 225)]
theorem smR0_4:retIs (callN cx blkOrc 1000000 (.fn 197 [.p (.str smI0_4)]) [] none) (.p smV0_4)=true:=by decide +kernel
noncomputable def smTab:List (List UInt8×PV):=[(smI0_0,smV0_0),(smI0_1,smV0_1),(smI0_2,smV0_2),(smI0_3,smV0_3),(smI0_4,smV0_4)]
noncomputable def smOrc:Orc:=memoS 197 smTab blkOrc
theorem smOrc_ok:OrcOk cx Tryz.prog smOrc:=by
 refine memoS_ok blkOrc_ok fun s v hm=>?_
 simp only[smTab,List.mem_cons,List.not_mem_nil,or_false,Prod.mk.injEq]at hm
 rcases hm with⟨rfl,rfl⟩|⟨rfl,rfl⟩|⟨rfl,rfl⟩|⟨rfl,rfl⟩|⟨rfl,rfl⟩
 ·exact memo_ok cx_ok blkOrc_ok smR0_0 rfl
 ·exact memo_ok cx_ok blkOrc_ok smR0_1 rfl
 ·exact memo_ok cx_ok blkOrc_ok smR0_2 rfl
 ·exact memo_ok cx_ok blkOrc_ok smR0_3 rfl
 ·exact memo_ok cx_ok blkOrc_ok smR0_4 rfl
end Go.Proofs

/- What is proved: the specification's digests that the examples need, by runs. Conditions: none. -/
import Derived.Test.YtepjcfcfpjhpgaaGreatDoorSE09
import Derived.Test.YtepjcfcfpjhpgaaGreatDoorSA10
set_option linter.all false
namespace Go.Proofs
open Go Go.Ai
set_option maxRecDepth 1000000
def KSrA0:List AV:=[.p (.str [49])]
def KSrH0:List Ob:=[]
def KSrV0:AV:=.p (kS 107 134 178 115 255 52 252 225 157 107 128 78 255 90 63 87)
def KSrW0:List Ob:=[.cells 27 [.p (kU 107),.p (kU 134),.p (kU 178),.p (kU 115),.p (kU 255),.p (kU 52),.p (kU 252),.p (kU 225),.p (kU 157),.p (kU 107),.p (kU 128),.p (kU 78),.p (kU 255),.p (kU 90),.p (kU 63),.p (kU 87)],.cells 189 [.p (kU 107),.p (kU 134),.p (kU 178),.p (kU 115),.p (kU 255),.p (kU 52),.p (kU 252),.p (kU 225),.p (kU 157),.p (kU 107),.p (kU 128),.p (kU 78),.p (kU 255),.p (kU 90),.p (kU 63),.p (kU 87),.p (kU 71),.p (kU 173),.p (kU 164),.p (kU 234),.p (kU 162),.p (kU 47),.p (kU 29),.p (kU 73),.p (kU 192),.p (kU 30),.p (kU 82),.p (kU 221),.p (kU 183),.p (kU 135),.p (kU 91),.p (kU 75)],.cells 27 [.p (kU 107),.p (kU 134),.p (kU 178),.p (kU 115),.p (kU 255),.p (kU 52),.p (kU 252),.p (kU 225),.p (kU 157),.p (kU 107),.p (kU 128),.p (kU 78),.p (kU 255),.p (kU 90),.p (kU 63),.p (kU 87)]]
theorem KSrR0:endIs (callN cx KBlOrc 1000000 (.fn 47 KSrA0) KSrH0 none) KSrV0 KSrW0=true:=by decide +kernel
def KSrA1:List AV:=[.p (.str [0,0,1,1,97,0,107,134,178,115,255,52,252,225,157,107,128,78,255,90,63,87])]
def KSrH1:List Ob:=[]
def KSrV1:AV:=.p (kS 213 128 15 103 212 139 113 240 208 227 72 71 98 108 83 232)
def KSrW1:List Ob:=[.cells 27 [.p (kU 213),.p (kU 128),.p (kU 15),.p (kU 103),.p (kU 212),.p (kU 139),.p (kU 113),.p (kU 240),.p (kU 208),.p (kU 227),.p (kU 72),.p (kU 71),.p (kU 98),.p (kU 108),.p (kU 83),.p (kU 232)],.cells 189 [.p (kU 213),.p (kU 128),.p (kU 15),.p (kU 103),.p (kU 212),.p (kU 139),.p (kU 113),.p (kU 240),.p (kU 208),.p (kU 227),.p (kU 72),.p (kU 71),.p (kU 98),.p (kU 108),.p (kU 83),.p (kU 232),.p (kU 220),.p (kU 42),.p (kU 81),.p (kU 223),.p (kU 139),.p (kU 63),.p (kU 222),.p (kU 111),.p (kU 7),.p (kU 114),.p (kU 158),.p (kU 73),.p (kU 185),.p (kU 202),.p (kU 29),.p (kU 83)],.cells 27 [.p (kU 213),.p (kU 128),.p (kU 15),.p (kU 103),.p (kU 212),.p (kU 139),.p (kU 113),.p (kU 240),.p (kU 208),.p (kU 227),.p (kU 72),.p (kU 71),.p (kU 98),.p (kU 108),.p (kU 83),.p (kU 232)]]
theorem KSrR1:endIs (callN cx KBlOrc 1000000 (.fn 47 KSrA1) KSrH1 none) KSrV1 KSrW1=true:=by decide +kernel
def KSrA2:List AV:=[.p (.str [50])]
def KSrH2:List Ob:=[]
def KSrV2:AV:=.p (kS 212 115 94 58 38 94 22 238 224 63 89 113 139 155 93 3)
def KSrW2:List Ob:=[.cells 27 [.p (kU 212),.p (kU 115),.p (kU 94),.p (kU 58),.p (kU 38),.p (kU 94),.p (kU 22),.p (kU 238),.p (kU 224),.p (kU 63),.p (kU 89),.p (kU 113),.p (kU 139),.p (kU 155),.p (kU 93),.p (kU 3)],.cells 189 [.p (kU 212),.p (kU 115),.p (kU 94),.p (kU 58),.p (kU 38),.p (kU 94),.p (kU 22),.p (kU 238),.p (kU 224),.p (kU 63),.p (kU 89),.p (kU 113),.p (kU 139),.p (kU 155),.p (kU 93),.p (kU 3),.p (kU 1),.p (kU 156),.p (kU 7),.p (kU 216),.p (kU 182),.p (kU 197),.p (kU 31),.p (kU 144),.p (kU 218),.p (kU 58),.p (kU 102),.p (kU 110),.p (kU 236),.p (kU 19),.p (kU 171),.p (kU 53)],.cells 27 [.p (kU 212),.p (kU 115),.p (kU 94),.p (kU 58),.p (kU 38),.p (kU 94),.p (kU 22),.p (kU 238),.p (kU 224),.p (kU 63),.p (kU 89),.p (kU 113),.p (kU 139),.p (kU 155),.p (kU 93),.p (kU 3)]]
theorem KSrR2:endIs (callN cx KBlOrc 1000000 (.fn 47 KSrA2) KSrH2 none) KSrV2 KSrW2=true:=by decide +kernel
def KSrA3:List AV:=[.p (.str [0,0,2,1,97,0,107,134,178,115,255,52,252,225,157,107,128,78,255,90,63,87,1,98,0,212,115,94,58,38,94,22,238,224,63,89,113,139,155,93,3])]
def KSrH3:List Ob:=[]
def KSrV3:AV:=.p (kS 43 115 173 198 223 41 149 95 98 6 158 38 187 99 142 108)
def KSrW3:List Ob:=[.cells 27 [.p (kU 43),.p (kU 115),.p (kU 173),.p (kU 198),.p (kU 223),.p (kU 41),.p (kU 149),.p (kU 95),.p (kU 98),.p (kU 6),.p (kU 158),.p (kU 38),.p (kU 187),.p (kU 99),.p (kU 142),.p (kU 108)],.cells 189 [.p (kU 43),.p (kU 115),.p (kU 173),.p (kU 198),.p (kU 223),.p (kU 41),.p (kU 149),.p (kU 95),.p (kU 98),.p (kU 6),.p (kU 158),.p (kU 38),.p (kU 187),.p (kU 99),.p (kU 142),.p (kU 108),.p (kU 138),.p (kU 91),.p (kU 137),.p (kU 81),.p (kU 22),.p (kU 24),.p (kU 73),.p (kU 110),.p (kU 23),.p (kU 43),.p (kU 71),.p (kU 203),.p (kU 178),.p (kU 112),.p (kU 61),.p (kU 8)],.cells 27 [.p (kU 43),.p (kU 115),.p (kU 173),.p (kU 198),.p (kU 223),.p (kU 41),.p (kU 149),.p (kU 95),.p (kU 98),.p (kU 6),.p (kU 158),.p (kU 38),.p (kU 187),.p (kU 99),.p (kU 142),.p (kU 108)]]
theorem KSrR3:endIs (callN cx KBlOrc 1000000 (.fn 47 KSrA3) KSrH3 none) KSrV3 KSrW3=true:=by decide +kernel
def KSrA4:List AV:=[.p (.str [52])]
def KSrH4:List Ob:=[]
def KSrV4:AV:=.p (kS 75 34 119 119 212 221 31 198 28 111 136 79 72 100 29 2)
def KSrW4:List Ob:=[.cells 27 [.p (kU 75),.p (kU 34),.p (kU 119),.p (kU 119),.p (kU 212),.p (kU 221),.p (kU 31),.p (kU 198),.p (kU 28),.p (kU 111),.p (kU 136),.p (kU 79),.p (kU 72),.p (kU 100),.p (kU 29),.p (kU 2)],.cells 189 [.p (kU 75),.p (kU 34),.p (kU 119),.p (kU 119),.p (kU 212),.p (kU 221),.p (kU 31),.p (kU 198),.p (kU 28),.p (kU 111),.p (kU 136),.p (kU 79),.p (kU 72),.p (kU 100),.p (kU 29),.p (kU 2),.p (kU 180),.p (kU 209),.p (kU 33),.p (kU 211),.p (kU 253),.p (kU 50),.p (kU 140),.p (kU 176),.p (kU 139),.p (kU 85),.p (kU 49),.p (kU 252),.p (kU 172),.p (kU 218),.p (kU 191),.p (kU 138)],.cells 27 [.p (kU 75),.p (kU 34),.p (kU 119),.p (kU 119),.p (kU 212),.p (kU 221),.p (kU 31),.p (kU 198),.p (kU 28),.p (kU 111),.p (kU 136),.p (kU 79),.p (kU 72),.p (kU 100),.p (kU 29),.p (kU 2)]]
theorem KSrR4:endIs (callN cx KBlOrc 1000000 (.fn 47 KSrA4) KSrH4 none) KSrV4 KSrW4=true:=by decide +kernel
def KSrA5:List AV:=[.p (.str [0,0,3,1,97,0,107,134,178,115,255,52,252,225,157,107,128,78,255,90,63,87,1,98,0,212,115,94,58,38,94,22,238,224,63,89,113,139,155,93,3,1,100,0,75,34,119,119,212,221,31,198,28,111,136,79,72,100,29,2])]
def KSrH5:List Ob:=[]
def KSrV5:AV:=.p (kS 46 205 170 196 242 34 172 63 139 185 241 46 189 49 36 112)
def KSrW5:List Ob:=[.cells 27 [.p (kU 46),.p (kU 205),.p (kU 170),.p (kU 196),.p (kU 242),.p (kU 34),.p (kU 172),.p (kU 63),.p (kU 139),.p (kU 185),.p (kU 241),.p (kU 46),.p (kU 189),.p (kU 49),.p (kU 36),.p (kU 112)],.cells 189 [.p (kU 46),.p (kU 205),.p (kU 170),.p (kU 196),.p (kU 242),.p (kU 34),.p (kU 172),.p (kU 63),.p (kU 139),.p (kU 185),.p (kU 241),.p (kU 46),.p (kU 189),.p (kU 49),.p (kU 36),.p (kU 112),.p (kU 135),.p (kU 115),.p (kU 11),.p (kU 68),.p (kU 185),.p (kU 213),.p (kU 10),.p (kU 236),.p (kU 150),.p (kU 165),.p (kU 210),.p (kU 235),.p (kU 75),.p (kU 194),.p (kU 133),.p (kU 126)],.cells 27 [.p (kU 46),.p (kU 205),.p (kU 170),.p (kU 196),.p (kU 242),.p (kU 34),.p (kU 172),.p (kU 63),.p (kU 139),.p (kU 185),.p (kU 241),.p (kU 46),.p (kU 189),.p (kU 49),.p (kU 36),.p (kU 112)]]
theorem KSrR5:endIs (callN cx KBlOrc 1000000 (.fn 47 KSrA5) KSrH5 none) KSrV5 KSrW5=true:=by decide +kernel
noncomputable def KSrTab47:List Run1:=[⟨KSrA0,KSrH0,KSrV0,KSrW0⟩,⟨KSrA1,KSrH1,KSrV1,KSrW1⟩,⟨KSrA2,KSrH2,KSrV2,KSrW2⟩,⟨KSrA3,KSrH3,KSrV3,KSrW3⟩,⟨KSrA4,KSrH4,KSrV4,KSrW4⟩,⟨KSrA5,KSrH5,KSrV5,KSrW5⟩]
noncomputable def KSrOrc47:Orc:=memoG 47 KSrTab47 KBlOrc
theorem KSrOrc47_ok:OrcOk cx Tryz.prog KSrOrc47:=by
 refine memoG_ok KBlOrc_ok fun r hr=>?_
 simp only[KSrTab47,List.mem_cons,List.not_mem_nil,or_false]at hr
 rcases hr with rfl|rfl|rfl|rfl|rfl|rfl
 ·exact run1_ok (r:=⟨KSrA0,KSrH0,KSrV0,KSrW0⟩) cx_ok KBlOrc_ok KSrR0
 ·exact run1_ok (r:=⟨KSrA1,KSrH1,KSrV1,KSrW1⟩) cx_ok KBlOrc_ok KSrR1
 ·exact run1_ok (r:=⟨KSrA2,KSrH2,KSrV2,KSrW2⟩) cx_ok KBlOrc_ok KSrR2
 ·exact run1_ok (r:=⟨KSrA3,KSrH3,KSrV3,KSrW3⟩) cx_ok KBlOrc_ok KSrR3
 ·exact run1_ok (r:=⟨KSrA4,KSrH4,KSrV4,KSrW4⟩) cx_ok KBlOrc_ok KSrR4
 ·exact run1_ok (r:=⟨KSrA5,KSrH5,KSrV5,KSrW5⟩) cx_ok KBlOrc_ok KSrR5
noncomputable abbrev KSrOrc:Orc:=KSrOrc47
theorem KSrOrc_ok:OrcOk cx Tryz.prog KSrOrc:=KSrOrc47_ok
end Go.Proofs

/- What is proved: short code of functions that the contents of proofs call is their code; facts of types; rules for rewriting. Conditions: none. -/
import Derived.Test.YtepjcfcfpjhpgaaGreatDoorPA10
import Derived.Test.YtepjcfcfpjhpgaaGreatDoorPB01
import Derived.KernelRfl
import Derived.Test.YtepjcfcfpjhpgaaGreatDoorPA11
import Derived.Test.YtepjcfcfpjhpgaaGreatDoorPA12
import Derived.Test.YtepjcfcfpjhpgaaGreatDoorPA09
set_option linter.all false
set_option maxRecDepth 100000
namespace Go.Proofs
open Go Go.Ai
-- (*understory/digest.hasher).block
def sc341r0:List SOp:=[⟨none,.alloc 384,(some 4)⟩]
def sc341r1:List SOp:=[⟨none,.move (.const (.int .i64 0)),(some 22)⟩]
def sc341r2:List SOp:=[⟨none,.binOp .lss 3 (.tmp 22) (.const (.int .i64 64)) 3,(some 23)⟩]
def sc341r3:List SOp:=[⟨none,.move (.tmp 22),(some 24)⟩,
 ⟨none,.assign (.tmp 24),(some 5)⟩]
def sc341r4:List SOp:=[⟨none,.move (.tmp 5),(some 25)⟩,
 ⟨none,.binOp .lss 3 (.tmp 25) (.const (.int .i64 16)) 3,(some 26)⟩]
def sc341r5:List (SOp×DK):=[(⟨none,.move (.tmp 5),(some 27)⟩,.L 0 0 []),
 (⟨none,.move (.tmp 1),(some 28)⟩,.L 0 0 []),
 (⟨none,.move (.tmp 5),(some 29)⟩,.L 0 0 []),
 (⟨none,.binOp .mul 3 (.const (.int .i64 4)) (.tmp 29) 3,(some 30)⟩,.L 0 0 []),
 (⟨none,.index 9 (.tmp 28) (.tmp 30),(some 31)⟩,.L 0 0 []),
 (⟨none,.convert 5 290 (.tmp 31),(some 32)⟩,.L 0 0 []),
 (⟨none,.binOp .shl 290 (.tmp 32) (.const (.int .u64 24)) 232,(some 33)⟩,.L 0 0 []),
 (⟨none,.move (.tmp 1),(some 34)⟩,.L 0 0 []),
 (⟨none,.move (.tmp 5),(some 35)⟩,.L 0 0 []),
 (⟨none,.binOp .mul 3 (.const (.int .i64 4)) (.tmp 35) 3,(some 36)⟩,.L 0 0 []),
 (⟨none,.binOp .add 3 (.tmp 36) (.const (.int .i64 1)) 3,(some 37)⟩,.L 0 0 []),
 (⟨none,.index 9 (.tmp 34) (.tmp 37),(some 38)⟩,.L 0 0 []),
 (⟨none,.convert 5 290 (.tmp 38),(some 39)⟩,.L 0 0 []),
 (⟨none,.binOp .shl 290 (.tmp 39) (.const (.int .u64 16)) 232,(some 40)⟩,.L 0 0 []),
 (⟨none,.binOp .or 290 (.tmp 33) (.tmp 40) 290,(some 41)⟩,.L 0 0 []),
 (⟨none,.move (.tmp 1),(some 42)⟩,.L 0 0 []),
 (⟨none,.move (.tmp 5),(some 43)⟩,.L 0 0 []),
 (⟨none,.binOp .mul 3 (.const (.int .i64 4)) (.tmp 43) 3,(some 44)⟩,.L 0 0 []),
 (⟨none,.binOp .add 3 (.tmp 44) (.const (.int .i64 2)) 3,(some 45)⟩,.L 0 0 []),
 (⟨none,.index 9 (.tmp 42) (.tmp 45),(some 46)⟩,.L 0 0 []),
 (⟨none,.convert 5 290 (.tmp 46),(some 47)⟩,.L 0 0 []),
 (⟨none,.binOp .shl 290 (.tmp 47) (.const (.int .u64 8)) 232,(some 48)⟩,.L 0 0 []),
 (⟨none,.binOp .or 290 (.tmp 41) (.tmp 48) 290,(some 49)⟩,.L 0 0 []),
 (⟨none,.move (.tmp 1),(some 50)⟩,.L 0 0 []),
 (⟨none,.move (.tmp 5),(some 51)⟩,.L 0 0 []),
 (⟨none,.binOp .mul 3 (.const (.int .i64 4)) (.tmp 51) 3,(some 52)⟩,.L 0 0 []),
 (⟨none,.binOp .add 3 (.tmp 52) (.const (.int .i64 3)) 3,(some 53)⟩,.L 0 0 []),
 (⟨none,.index 9 (.tmp 50) (.tmp 53),(some 54)⟩,.L 0 0 []),
 (⟨none,.convert 5 290 (.tmp 54),(some 55)⟩,.L 0 0 []),
 (⟨none,.binOp .or 290 (.tmp 49) (.tmp 55) 290,(some 56)⟩,.L 0 0 []),
 (⟨none,.indexAddr 384 (.tmp 4) (.tmp 27),(some 57)⟩,.L 0 0 []),
 (⟨none,.store 290 (.tmp 57) (.tmp 56),none⟩,.A [27,28,29,30,31,32,33,34,35,36,37,38,39,40,41,42,43,44,45,46,47,48,49,50,51,52,53,54,55,56,57] [])]
def sc341d5:SC:=.draw sc341r5
theorem sc341d5_x{o rd Q t h d r}:xC cx o rd sc341d5 Q t h d r=xDraw cx o rd Q sc341r5 0 [h] [] [] t h d r:=xC_draw (by kernel_rfl)
def sc341r6:List (SOp×DK):=[(⟨none,.move (.tmp 5),(some 58)⟩,.L 0 0 []),
 (⟨none,.binOp .sub 3 (.tmp 58) (.const (.int .i64 15)) 3,(some 59)⟩,.L 0 0 []),
 (⟨none,.indexAddr 384 (.tmp 4) (.tmp 59),(some 60)⟩,.L 0 0 []),
 (⟨none,.load 290 (.tmp 60),(some 61)⟩,.L 0 0 []),
 (⟨none,.move (.tmp 5),(some 62)⟩,.L 0 0 []),
 (⟨none,.binOp .sub 3 (.tmp 62) (.const (.int .i64 2)) 3,(some 63)⟩,.L 0 0 []),
 (⟨none,.indexAddr 384 (.tmp 4) (.tmp 63),(some 64)⟩,.L 0 0 []),
 (⟨none,.load 290 (.tmp 64),(some 65)⟩,.L 0 0 []),
 (⟨none,.assign (.tmp 61),(some 6)⟩,.L 0 0 []),
 (⟨none,.assign (.tmp 65),(some 7)⟩,.L 0 0 [])]
def sc341d6:SC:=.draw sc341r6
theorem sc341d6_x{o rd Q t h d r}:xC cx o rd sc341d6 Q t h d r=xDraw cx o rd Q sc341r6 0 [h] [] [] t h d r:=xC_draw (by kernel_rfl)
def sc341r7:List SOp:=[⟨none,.move (.tmp 6),(some 66)⟩,
 ⟨none,.call {callee:=.value (.func 373),args:=#[(.tmp 66),(.const (.int .i64 (-7)))],argTypes:=#[290,3]},(some 67)⟩,
 ⟨none,.move (.tmp 6),(some 68)⟩,
 ⟨none,.call {callee:=.value (.func 373),args:=#[(.tmp 68),(.const (.int .i64 (-18)))],argTypes:=#[290,3]},(some 69)⟩,
 ⟨none,.binOp .xor 290 (.tmp 67) (.tmp 69) 290,(some 70)⟩,
 ⟨none,.move (.tmp 6),(some 71)⟩,
 ⟨none,.binOp .shr 290 (.tmp 71) (.const (.int .u64 3)) 232,(some 72)⟩,
 ⟨none,.binOp .xor 290 (.tmp 70) (.tmp 72) 290,(some 73)⟩,
 ⟨none,.assign (.tmp 73),(some 8)⟩]
def sc341r8:List SOp:=[⟨none,.move (.tmp 7),(some 74)⟩,
 ⟨none,.call {callee:=.value (.func 373),args:=#[(.tmp 74),(.const (.int .i64 (-17)))],argTypes:=#[290,3]},(some 75)⟩,
 ⟨none,.move (.tmp 7),(some 76)⟩,
 ⟨none,.call {callee:=.value (.func 373),args:=#[(.tmp 76),(.const (.int .i64 (-19)))],argTypes:=#[290,3]},(some 77)⟩,
 ⟨none,.binOp .xor 290 (.tmp 75) (.tmp 77) 290,(some 78)⟩,
 ⟨none,.move (.tmp 7),(some 79)⟩,
 ⟨none,.binOp .shr 290 (.tmp 79) (.const (.int .u64 10)) 232,(some 80)⟩,
 ⟨none,.binOp .xor 290 (.tmp 78) (.tmp 80) 290,(some 81)⟩,
 ⟨none,.assign (.tmp 81),(some 9)⟩]
def sc341r9:List (SOp×DK):=[(⟨none,.move (.tmp 5),(some 82)⟩,.L 0 0 []),
 (⟨none,.move (.tmp 5),(some 83)⟩,.L 0 0 []),
 (⟨none,.binOp .sub 3 (.tmp 83) (.const (.int .i64 16)) 3,(some 84)⟩,.L 0 0 []),
 (⟨none,.indexAddr 384 (.tmp 4) (.tmp 84),(some 85)⟩,.L 0 0 []),
 (⟨none,.load 290 (.tmp 85),(some 86)⟩,.L 0 0 []),
 (⟨none,.move (.tmp 8),(some 87)⟩,.L 0 0 []),
 (⟨none,.binOp .add 290 (.tmp 86) (.tmp 87) 290,(some 88)⟩,.L 0 0 []),
 (⟨none,.move (.tmp 5),(some 89)⟩,.L 0 0 []),
 (⟨none,.binOp .sub 3 (.tmp 89) (.const (.int .i64 7)) 3,(some 90)⟩,.L 0 0 []),
 (⟨none,.indexAddr 384 (.tmp 4) (.tmp 90),(some 91)⟩,.L 0 0 []),
 (⟨none,.load 290 (.tmp 91),(some 92)⟩,.L 0 0 []),
 (⟨none,.binOp .add 290 (.tmp 88) (.tmp 92) 290,(some 93)⟩,.L 0 0 []),
 (⟨none,.move (.tmp 9),(some 94)⟩,.L 0 0 []),
 (⟨none,.binOp .add 290 (.tmp 93) (.tmp 94) 290,(some 95)⟩,.L 0 0 []),
 (⟨none,.indexAddr 384 (.tmp 4) (.tmp 82),(some 96)⟩,.L 0 0 []),
 (⟨none,.store 290 (.tmp 96) (.tmp 95),none⟩,.A [82,83,84,85,86,87,88,89,90,91,92,93,94,95,96] [])]
def sc341d9:SC:=.draw sc341r9
theorem sc341d9_x{o rd Q t h d r}:xC cx o rd sc341d9 Q t h d r=xDraw cx o rd Q sc341r9 0 [h] [] [] t h d r:=xC_draw (by kernel_rfl)
def sc341r10:List SOp:=[⟨none,.binOp .add 3 (.tmp 22) (.const (.int .i64 1)) 3,(some 97)⟩,
 ⟨none,.move (.tmp 97),(some 22)⟩]
def sc341l11:SC:=(.seq (.reg sc341r2) (.seq (.cond (.tmp 23) .skip (.exit 0)) (.seq (.block 1 (.seq (.reg sc341r3) (.seq (.seq (.reg sc341r4) (.cond (.tmp 26) (.seq sc341d5 (.exit 1)) .skip)) (.seq sc341d6 (.seq (.reg sc341r7) (.seq (.reg sc341r8) sc341d9)))))) (.reg sc341r10))))
def sc341r12:List SOp:=[⟨none,.move (.tmp 0),(some 98)⟩,
 ⟨none,.nilCheck (.tmp 98),(some 99)⟩,
 ⟨none,.fieldAddr 390 (.tmp 99) 0,(some 100)⟩,
 ⟨none,.fieldAddr 293 (.tmp 100) 0,(some 101)⟩,
 ⟨none,.load 291 (.tmp 101),(some 102)⟩,
 ⟨none,.alloc 291,(some 10)⟩,
 ⟨none,.store 291 (.tmp 10) (.tmp 102),none⟩]
def sc341r13:List SOp:=[⟨none,.move (.const (.int .i64 0)),(some 103)⟩]
def sc341r14:List SOp:=[⟨none,.binOp .lss 3 (.tmp 103) (.const (.int .i64 64)) 3,(some 104)⟩]
def sc341r15:List SOp:=[⟨none,.move (.tmp 103),(some 105)⟩,
 ⟨none,.assign (.tmp 105),(some 11)⟩]
def sc341r16:List (SOp×DK):=[(⟨none,.indexAddr 291 (.tmp 10) (.const (.int .i64 0)),(some 106)⟩,.L 0 0 []),
 (⟨none,.load 290 (.tmp 106),(some 107)⟩,.L 0 0 []),
 (⟨none,.indexAddr 291 (.tmp 10) (.const (.int .i64 1)),(some 108)⟩,.L 0 0 []),
 (⟨none,.load 290 (.tmp 108),(some 109)⟩,.L 0 0 []),
 (⟨none,.indexAddr 291 (.tmp 10) (.const (.int .i64 2)),(some 110)⟩,.L 0 0 []),
 (⟨none,.load 290 (.tmp 110),(some 111)⟩,.L 0 0 []),
 (⟨none,.assign (.tmp 107),(some 12)⟩,.L 0 0 []),
 (⟨none,.assign (.tmp 109),(some 13)⟩,.L 0 0 []),
 (⟨none,.assign (.tmp 111),(some 14)⟩,.L 0 0 [])]
def sc341d16:SC:=.draw sc341r16
theorem sc341d16_x{o rd Q t h d r}:xC cx o rd sc341d16 Q t h d r=xDraw cx o rd Q sc341r16 0 [h] [] [] t h d r:=xC_draw (by kernel_rfl)
def sc341r17:List (SOp×DK):=[(⟨none,.indexAddr 291 (.tmp 10) (.const (.int .i64 4)),(some 112)⟩,.L 0 0 []),
 (⟨none,.load 290 (.tmp 112),(some 113)⟩,.L 0 0 []),
 (⟨none,.indexAddr 291 (.tmp 10) (.const (.int .i64 5)),(some 114)⟩,.L 0 0 []),
 (⟨none,.load 290 (.tmp 114),(some 115)⟩,.L 0 0 []),
 (⟨none,.indexAddr 291 (.tmp 10) (.const (.int .i64 6)),(some 116)⟩,.L 0 0 []),
 (⟨none,.load 290 (.tmp 116),(some 117)⟩,.L 0 0 []),
 (⟨none,.assign (.tmp 113),(some 15)⟩,.L 0 0 []),
 (⟨none,.assign (.tmp 115),(some 16)⟩,.L 0 0 []),
 (⟨none,.assign (.tmp 117),(some 17)⟩,.L 0 0 [])]
def sc341d17:SC:=.draw sc341r17
theorem sc341d17_x{o rd Q t h d r}:xC cx o rd sc341d17 Q t h d r=xDraw cx o rd Q sc341r17 0 [h] [] [] t h d r:=xC_draw (by kernel_rfl)
def sc341r18:List (SOp×DK):=[(⟨none,.indexAddr 291 (.tmp 10) (.const (.int .i64 7)),(some 118)⟩,.L 0 3 []),
 (⟨none,.load 290 (.tmp 118),(some 119)⟩,.L 0 3 []),
 (⟨none,.move (.tmp 15),(some 120)⟩,.L 0 0 []),
 (⟨none,.call {callee:=.value (.func 373),args:=#[(.tmp 120),(.const (.int .i64 (-6)))],argTypes:=#[290,3]},(some 121)⟩,.A [118,119,120,121,122,125,129,130,131,132,133,134,135,136,138,139,140,141,142,143,145,146,147] [118,119,122,125,129,130,131,132,133,134,135,136,138,139,140,141,142,143,145,146,147]),
 (⟨none,.move (.tmp 15),(some 122)⟩,.L 0 1 []),
 (⟨none,.call {callee:=.value (.func 373),args:=#[(.tmp 122),(.const (.int .i64 (-11)))],argTypes:=#[290,3]},(some 123)⟩,.A [118,119,120,121,122,123,125,129,130,131,132,133,134,135,136,138,139,140,141,142,143,145,146,147] [118,119,125,129,130,131,132,133,134,135,136,138,139,140,141,142,143,145,146,147]),
 (⟨none,.binOp .xor 290 (.tmp 121) (.tmp 123) 290,(some 124)⟩,.L 2 3 []),
 (⟨none,.move (.tmp 15),(some 125)⟩,.L 0 2 []),
 (⟨none,.call {callee:=.value (.func 373),args:=#[(.tmp 125),(.const (.int .i64 (-25)))],argTypes:=#[290,3]},(some 126)⟩,.A [118,119,120,121,122,123,124,125,126,129,130,131,132,133,134,135,136,138,139,140,141,142,143,145,146,147] [118,119,124,129,130,131,132,133,134,135,136,138,139,140,141,142,143,145,146,147]),
 (⟨none,.binOp .xor 290 (.tmp 124) (.tmp 126) 290,(some 127)⟩,.L 3 3 []),
 (⟨none,.binOp .add 290 (.tmp 119) (.tmp 127) 290,(some 128)⟩,.L 3 3 []),
 (⟨none,.move (.tmp 15),(some 129)⟩,.L 0 3 []),
 (⟨none,.move (.tmp 16),(some 130)⟩,.L 0 3 []),
 (⟨none,.binOp .and 290 (.tmp 129) (.tmp 130) 290,(some 131)⟩,.L 0 3 []),
 (⟨none,.move (.tmp 15),(some 132)⟩,.L 0 3 []),
 (⟨none,.unOp .xor 290 (.tmp 132),(some 133)⟩,.L 0 3 []),
 (⟨none,.move (.tmp 17),(some 134)⟩,.L 0 3 []),
 (⟨none,.binOp .and 290 (.tmp 133) (.tmp 134) 290,(some 135)⟩,.L 0 3 []),
 (⟨none,.binOp .xor 290 (.tmp 131) (.tmp 135) 290,(some 136)⟩,.L 0 3 []),
 (⟨none,.binOp .add 290 (.tmp 128) (.tmp 136) 290,(some 137)⟩,.L 3 3 []),
 (⟨none,.move (.tmp 0),(some 138)⟩,.L 0 3 []),
 (⟨none,.move (.tmp 11),(some 139)⟩,.L 0 3 []),
 (⟨none,.nilCheck (.tmp 138),(some 140)⟩,.L 0 3 []),
 (⟨none,.fieldAddr 390 (.tmp 140) 1,(some 141)⟩,.L 0 3 []),
 (⟨none,.indexAddr 384 (.tmp 141) (.tmp 139),(some 142)⟩,.L 0 3 []),
 (⟨none,.load 290 (.tmp 142),(some 143)⟩,.L 0 3 []),
 (⟨none,.binOp .add 290 (.tmp 137) (.tmp 143) 290,(some 144)⟩,.L 3 3 []),
 (⟨none,.move (.tmp 11),(some 145)⟩,.L 0 3 []),
 (⟨none,.indexAddr 384 (.tmp 4) (.tmp 145),(some 146)⟩,.L 0 3 []),
 (⟨none,.load 290 (.tmp 146),(some 147)⟩,.L 0 3 []),
 (⟨none,.binOp .add 290 (.tmp 144) (.tmp 147) 290,(some 148)⟩,.L 3 3 []),
 (⟨none,.assign (.tmp 148),(some 18)⟩,.L 3 3 [])]
def sc341d18:SC:=.draw sc341r18
theorem sc341d18_x{o rd Q t h d r}:xC cx o rd sc341d18 Q t h d r=xDraw cx o rd Q sc341r18 0 [h] [] [] t h d r:=xC_draw (by kernel_rfl)
def sc341r19:List SOp:=[⟨none,.move (.tmp 12),(some 149)⟩,
 ⟨none,.call {callee:=.value (.func 373),args:=#[(.tmp 149),(.const (.int .i64 (-2)))],argTypes:=#[290,3]},(some 150)⟩,
 ⟨none,.move (.tmp 12),(some 151)⟩,
 ⟨none,.call {callee:=.value (.func 373),args:=#[(.tmp 151),(.const (.int .i64 (-13)))],argTypes:=#[290,3]},(some 152)⟩,
 ⟨none,.binOp .xor 290 (.tmp 150) (.tmp 152) 290,(some 153)⟩,
 ⟨none,.move (.tmp 12),(some 154)⟩,
 ⟨none,.call {callee:=.value (.func 373),args:=#[(.tmp 154),(.const (.int .i64 (-22)))],argTypes:=#[290,3]},(some 155)⟩,
 ⟨none,.binOp .xor 290 (.tmp 153) (.tmp 155) 290,(some 156)⟩,
 ⟨none,.move (.tmp 12),(some 157)⟩,
 ⟨none,.move (.tmp 13),(some 158)⟩,
 ⟨none,.binOp .and 290 (.tmp 157) (.tmp 158) 290,(some 159)⟩,
 ⟨none,.move (.tmp 12),(some 160)⟩,
 ⟨none,.move (.tmp 14),(some 161)⟩,
 ⟨none,.binOp .and 290 (.tmp 160) (.tmp 161) 290,(some 162)⟩,
 ⟨none,.binOp .xor 290 (.tmp 159) (.tmp 162) 290,(some 163)⟩,
 ⟨none,.move (.tmp 13),(some 164)⟩,
 ⟨none,.move (.tmp 14),(some 165)⟩,
 ⟨none,.binOp .and 290 (.tmp 164) (.tmp 165) 290,(some 166)⟩,
 ⟨none,.binOp .xor 290 (.tmp 163) (.tmp 166) 290,(some 167)⟩,
 ⟨none,.binOp .add 290 (.tmp 156) (.tmp 167) 290,(some 168)⟩,
 ⟨none,.assign (.tmp 168),(some 19)⟩]
def sc341r20:List SOp:=[⟨none,.move (.tmp 18),(some 169)⟩,
 ⟨none,.move (.tmp 19),(some 170)⟩,
 ⟨none,.binOp .add 290 (.tmp 169) (.tmp 170) 290,(some 171)⟩,
 ⟨none,.move (.tmp 12),(some 172)⟩,
 ⟨none,.move (.tmp 13),(some 173)⟩,
 ⟨none,.move (.tmp 14),(some 174)⟩,
 ⟨none,.indexAddr 291 (.tmp 10) (.const (.int .i64 3)),(some 175)⟩,
 ⟨none,.load 290 (.tmp 175),(some 176)⟩,
 ⟨none,.move (.tmp 18),(some 177)⟩,
 ⟨none,.binOp .add 290 (.tmp 176) (.tmp 177) 290,(some 178)⟩,
 ⟨none,.move (.tmp 15),(some 179)⟩,
 ⟨none,.move (.tmp 16),(some 180)⟩,
 ⟨none,.move (.tmp 17),(some 181)⟩,
 ⟨none,.build 291 #[(0,(.tmp 171)),(1,(.tmp 172)),(2,(.tmp 173)),(3,(.tmp 174)),(4,(.tmp 178)),(5,(.tmp 179)),(6,(.tmp 180)),(7,(.tmp 181))],(some 182)⟩,
 ⟨none,.store 291 (.tmp 10) (.tmp 182),none⟩]
def sc341r21:List SOp:=[⟨none,.binOp .add 3 (.tmp 103) (.const (.int .i64 1)) 3,(some 183)⟩,
 ⟨none,.move (.tmp 183),(some 103)⟩]
def sc341l22:SC:=(.seq (.reg sc341r14) (.seq (.cond (.tmp 104) .skip (.exit 2)) (.seq (.block 3 (.seq (.reg sc341r15) (.seq sc341d16 (.seq sc341d17 (.seq sc341d18 (.seq (.reg sc341r19) (.reg sc341r20))))))) (.reg sc341r21))))
def sc341r23:List SOp:=[⟨none,.load 291 (.tmp 10),(some 184)⟩,
 ⟨none,.move (.const (.int .i64 0)),(some 185)⟩]
def sc341r24:List SOp:=[⟨none,.binOp .lss 3 (.tmp 185) (.const (.int .i64 8)) 3,(some 186)⟩]
def sc341r25:List SOp:=[⟨none,.move (.tmp 185),(some 187)⟩,
 ⟨none,.index 291 (.tmp 184) (.tmp 185),(some 188)⟩,
 ⟨none,.assign (.tmp 187),(some 20)⟩,
 ⟨none,.assign (.tmp 188),(some 21)⟩]
def sc341r26:List (SOp×DK):=[(⟨none,.move (.tmp 0),(some 189)⟩,.L 0 0 []),
 (⟨none,.move (.tmp 20),(some 190)⟩,.L 0 0 []),
 (⟨none,.nilCheck (.tmp 189),(some 191)⟩,.L 0 0 []),
 (⟨none,.fieldAddr 390 (.tmp 191) 0,(some 192)⟩,.L 0 0 []),
 (⟨none,.fieldAddr 293 (.tmp 192) 0,(some 193)⟩,.L 0 0 []),
 (⟨none,.indexAddr 291 (.tmp 193) (.tmp 190),(some 194)⟩,.L 0 0 []),
 (⟨none,.load 290 (.tmp 194),(some 195)⟩,.L 0 0 []),
 (⟨none,.move (.tmp 21),(some 196)⟩,.L 0 0 []),
 (⟨none,.binOp .add 290 (.tmp 195) (.tmp 196) 290,(some 197)⟩,.L 0 0 []),
 (⟨none,.nilCheck (.tmp 189),(some 198)⟩,.L 0 0 []),
 (⟨none,.fieldAddr 390 (.tmp 198) 0,(some 199)⟩,.L 0 0 []),
 (⟨none,.fieldAddr 293 (.tmp 199) 0,(some 200)⟩,.L 0 0 []),
 (⟨none,.indexAddr 291 (.tmp 200) (.tmp 190),(some 201)⟩,.L 0 0 []),
 (⟨none,.store 290 (.tmp 201) (.tmp 197),none⟩,.A [189,190,191,192,193,194,195,196,197,198,199,200,201] [])]
def sc341d26:SC:=.draw sc341r26
theorem sc341d26_x{o rd Q t h d r}:xC cx o rd sc341d26 Q t h d r=xDraw cx o rd Q sc341r26 0 [h] [] [] t h d r:=xC_draw (by kernel_rfl)
def sc341r27:List SOp:=[⟨none,.binOp .add 3 (.tmp 185) (.const (.int .i64 1)) 3,(some 202)⟩,
 ⟨none,.move (.tmp 202),(some 185)⟩]
def sc341l28:SC:=(.seq (.reg sc341r24) (.seq (.cond (.tmp 186) .skip (.exit 4)) (.seq (.block 5 (.seq (.reg sc341r25) sc341d26)) (.reg sc341r27))))
def sc341:SC:=(.seq (.reg sc341r0) (.seq (.seq (.reg sc341r1) (.block 0 (.loop sc341l11))) (.seq (.reg sc341r12) (.seq (.seq (.reg sc341r13) (.block 2 (.loop sc341l22))) (.seq (.reg sc341r23) (.block 4 (.loop sc341l28)))))))
theorem sc341_ok:Tryz.f341.body.map tr=some sc341:=by kernel_rfl
theorem fn341:cx.fn 341=some Tryz.f341:=by kernel_rfl
theorem sc341_dst:okS 203 sc341=true:=by kernel_rfl
theorem ct341{o args h P} (ho:o 341 args h=none) (ha:Nat.ble args.length 203=true) (hw:xC cx o none sc341 (endP cx [] P) (argT args 0 .lf) h [] none):Ct cx o (.fn 341 args) h P:=
 ct_sc fn341 sc341_ok rfl rfl ho ha sc341_dst hw
-- math/bits.RotateLeft32
def sc373r0:List SOp:=[⟨none,.assign (.const (.int .u32 0)),(some 4)⟩]
def sc373r1:List SOp:=[⟨none,.move (.tmp 1),(some 6)⟩,
 ⟨none,.convert 3 232 (.tmp 6),(some 7)⟩,
 ⟨none,.binOp .and 232 (.tmp 7) (.const (.int .u64 31)) 232,(some 8)⟩,
 ⟨none,.assign (.tmp 8),(some 5)⟩]
def sc373r2:List SOp:=[⟨none,.move (.tmp 0),(some 9)⟩,
 ⟨none,.move (.tmp 5),(some 10)⟩,
 ⟨none,.binOp .shl 290 (.tmp 9) (.tmp 10) 232,(some 11)⟩,
 ⟨none,.move (.tmp 0),(some 12)⟩,
 ⟨none,.move (.tmp 5),(some 13)⟩,
 ⟨none,.binOp .sub 232 (.const (.int .u64 32)) (.tmp 13) 232,(some 14)⟩,
 ⟨none,.binOp .shr 290 (.tmp 12) (.tmp 14) 232,(some 15)⟩,
 ⟨none,.binOp .or 290 (.tmp 11) (.tmp 15) 290,(some 16)⟩,
 ⟨none,.assign (.tmp 16),(some 4)⟩]
def sc373:SC:=(.seq (.reg sc373r0) (.seq (.reg sc373r1) (.seq (.reg sc373r2) .ret)))
theorem sc373_ok:Tryz.f373.body.map tr=some sc373:=by kernel_rfl
theorem fn373:cx.fn 373=some Tryz.f373:=by kernel_rfl
theorem ext373:cx.ext 373=none:=by kernel_rfl
theorem sc373_dst:okS 17 sc373=true:=by kernel_rfl
theorem ct373{o args h P} (ho:o 373 args h=none) (ha:Nat.ble args.length 17=true) (hw:xC cx o none sc373 (endP cx [.tmp 4] P) (argT args 0 .lf) h [] none):Ct cx o (.fn 373 args) h P:=
 ct_sc fn373 sc373_ok rfl rfl ho ha sc373_dst hw
theorem u3:cx.under 3=some (.int .i64):=by kernel_rfl
theorem s3:sizeOf? cx 3=some 1:=by kernel_rfl
theorem a3:aggT? cx 3=some false:=by kernel_rfl
theorem z3:zero? cx 3=some (.int .i64 0):=by kernel_rfl
theorem room3:room cx 3 1000000000=true:=by kernel_rfl
theorem u4:cx.under 4=some .bool:=by kernel_rfl
theorem s4:sizeOf? cx 4=some 1:=by kernel_rfl
theorem a4:aggT? cx 4=some false:=by kernel_rfl
theorem z4:zero? cx 4=some (.bool false):=by kernel_rfl
theorem u5:cx.under 5=some (.int .u8):=by kernel_rfl
theorem s5:sizeOf? cx 5=some 1:=by kernel_rfl
theorem a5:aggT? cx 5=some false:=by kernel_rfl
theorem z5:zero? cx 5=some (.int .u8 0):=by kernel_rfl
theorem room5:room cx 5 1000000000=true:=by kernel_rfl
theorem u9:cx.under 9=some .string:=by kernel_rfl
theorem s9:sizeOf? cx 9=some 1:=by kernel_rfl
theorem a9:aggT? cx 9=some false:=by kernel_rfl
theorem z9:zero? cx 9=some (.str []):=by kernel_rfl
theorem u96:cx.under 96=some (.slice 9):=by kernel_rfl
theorem s96:sizeOf? cx 96=some 1:=by kernel_rfl
theorem a96:aggT? cx 96=some false:=by kernel_rfl
theorem u36:cx.under 36=some (.int .i64):=by kernel_rfl
theorem s36:sizeOf? cx 36=some 1:=by kernel_rfl
theorem a36:aggT? cx 36=some false:=by kernel_rfl
theorem z36:zero? cx 36=some (.int .i64 0):=by kernel_rfl
theorem u117:cx.under 117=some (.slice 5):=by kernel_rfl
theorem s117:sizeOf? cx 117=some 1:=by kernel_rfl
theorem a117:aggT? cx 117=some false:=by kernel_rfl
theorem u232:cx.under 232=some (.int .u64):=by kernel_rfl
theorem u290:cx.under 290=some (.int .u32):=by kernel_rfl
theorem s290:sizeOf? cx 290=some 1:=by kernel_rfl
theorem a290:aggT? cx 290=some false:=by kernel_rfl
theorem u291:cx.under 291=some (.array 8 290):=by kernel_rfl
theorem s291:sizeOf? cx 291=some 8:=by kernel_rfl
theorem a291:aggT? cx 291=some true:=by kernel_rfl
theorem u384:cx.under 384=some (.array 64 290):=by kernel_rfl
theorem s384:sizeOf? cx 384=some 64:=by kernel_rfl
theorem s293:sizeOf? cx 293=some 10:=by kernel_rfl
theorem f293_0:(fieldOf cx 293 0).map (fun f=>(f.type,f.offset))=some (291,0):=by kernel_rfl
theorem f390_0:(fieldOf cx 390 0).map (fun f=>(f.type,f.offset))=some (293,0):=by kernel_rfl
theorem f390_1:(fieldOf cx 390 1).map (fun f=>(f.type,f.offset))=some (384,10):=by kernel_rfl
theorem u22:cx.under 22=some (.slice 62):=by kernel_rfl
theorem s22:sizeOf? cx 22=some 1:=by kernel_rfl
theorem a22:aggT? cx 22=some false:=by kernel_rfl
theorem u23:cx.under 23=some (.slice 3):=by kernel_rfl
theorem s23:sizeOf? cx 23=some 1:=by kernel_rfl
theorem a23:aggT? cx 23=some false:=by kernel_rfl
theorem z23:zero? cx 23=some (.nils):=by kernel_rfl
theorem s25:sizeOf? cx 25=some 6:=by kernel_rfl
theorem a25:aggT? cx 25=some true:=by kernel_rfl
theorem f25_0:(fieldOf cx 25 0).map (fun f=>(f.type,f.offset))=some (22,0):=by kernel_rfl
theorem f25_1:(fieldOf cx 25 1).map (fun f=>(f.type,f.offset))=some (23,1):=by kernel_rfl
theorem f25_2:(fieldOf cx 25 2).map (fun f=>(f.type,f.offset))=some (23,2):=by kernel_rfl
theorem f25_3:(fieldOf cx 25 3).map (fun f=>(f.type,f.offset))=some (23,3):=by kernel_rfl
theorem f25_4:(fieldOf cx 25 4).map (fun f=>(f.type,f.offset))=some (3,4):=by kernel_rfl
theorem f25_5:(fieldOf cx 25 5).map (fun f=>(f.type,f.offset))=some (3,5):=by kernel_rfl
theorem s62:sizeOf? cx 62=some 10:=by kernel_rfl
theorem a62:aggT? cx 62=some true:=by kernel_rfl
theorem f62_0:(fieldOf cx 62 0).map (fun f=>(f.type,f.offset))=some (3,0):=by kernel_rfl
theorem f62_1:(fieldOf cx 62 1).map (fun f=>(f.type,f.offset))=some (3,1):=by kernel_rfl
theorem s257:sizeOf? cx 257=some 6:=by kernel_rfl
theorem a257:aggT? cx 257=some true:=by kernel_rfl
theorem u150:cx.under 150=some (.slice 4):=by kernel_rfl
theorem s150:sizeOf? cx 150=some 1:=by kernel_rfl
theorem u258:cx.under 258=some (.slice 23):=by kernel_rfl
theorem s258:sizeOf? cx 258=some 1:=by kernel_rfl
theorem u27:cx.under 27=some (.array 16 5):=by kernel_rfl
theorem s27:sizeOf? cx 27=some 16:=by kernel_rfl
theorem a27:aggT? cx 27=some true:=by kernel_rfl
def CT(f n:Nat) (s:SC) (rs:List ResultVar):Prop:=∀ {o args h P},o f args h=none→Nat.ble args.length n=true→xC cx o none s (endP cx rs P) (argT args 0 .lf) h [] none→Ct cx o (.fn f args) h P
-- understory/understorylaw08.CursorChecks
theorem ext3:cx.ext 3=none:=by kernel_rfl
theorem fn5:cx.fn 5=some Tryz.f5:=by kernel_rfl
def sc83r0:List SOp:=[⟨none,.box 25 (.tmp 0),(some 1)⟩,
 ⟨none,.assign (.const (.int .i64 0)),(some 2)⟩]
def sc83r1:List SOp:=[faO 25 1 0 9,
 ldO 22 9 10,
 ⟨none,.call {callee:=.builtin .len,args:=#[(.tmp 10)],argTypes:=#[22]},(some 11)⟩,
 asO 11 3]
def sc83r2:List SOp:=[mvO 3 12,
 ⟨none,.binOp .lss 3 (.tmp 12) (.const (.int .i64 2)) 3,(some 13)⟩,
 mvO 13 14,
 ⟨(some (some 14,false)),.move (.tmp 3),(some 15)⟩,
 ⟨(some (some 14,false)),.binOp .gtr 3 (.tmp 15) (.const (.int .i64 4096)) 3,(some 16)⟩,
 ⟨none,.pick (.tmp 14) (.const (.bool true)) (.tmp 16),(some 17)⟩,
 mvO 17 18,
 ⟨(some (some 18,false)),.fieldAddr 25 (.tmp 1) 4,(some 19)⟩,
 ⟨(some (some 18,false)),.load 3 (.tmp 19),(some 20)⟩,
 ⟨(some (some 18,false)),.binOp .lss 3 (.tmp 20) (.const (.int .i64 0)) 3,(some 21)⟩,
 ⟨none,.pick (.tmp 18) (.const (.bool true)) (.tmp 21),(some 22)⟩,
 mvO 22 23,
 ⟨(some (some 23,false)),.fieldAddr 25 (.tmp 1) 4,(some 24)⟩,
 ⟨(some (some 23,false)),.load 3 (.tmp 24),(some 25)⟩,
 ⟨(some (some 23,false)),.binOp .gtr 3 (.tmp 25) (.const (.int .i64 1099511627776)) 3,(some 26)⟩,
 ⟨none,.pick (.tmp 23) (.const (.bool true)) (.tmp 26),(some 27)⟩,
 mvO 27 28,
 ⟨(some (some 28,false)),.fieldAddr 25 (.tmp 1) 5,(some 29)⟩,
 ⟨(some (some 28,false)),.load 3 (.tmp 29),(some 30)⟩,
 ⟨(some (some 28,false)),.binOp .lss 3 (.tmp 30) (.const (.int .i64 0)) 3,(some 31)⟩,
 ⟨none,.pick (.tmp 28) (.const (.bool true)) (.tmp 31),(some 32)⟩,
 mvO 32 33,
 ⟨(some (some 33,false)),.fieldAddr 25 (.tmp 1) 5,(some 34)⟩,
 ⟨(some (some 33,false)),.load 3 (.tmp 34),(some 35)⟩,
 ⟨(some (some 33,false)),.binOp .gtr 3 (.tmp 35) (.const (.int .i64 255)) 3,(some 36)⟩,
 ⟨none,.pick (.tmp 33) (.const (.bool true)) (.tmp 36),(some 37)⟩]
def sc83r3:List SOp:=[⟨none,.assign (.const (.int .i64 2)),(some 2)⟩]
def sc83r4:List SOp:=[mvO 3 38,
 ⟨none,.makeSlice 150 (.tmp 38) (.tmp 38),(some 39)⟩,
 asO 39 4]
def sc83r5:List SOp:=[faO 25 1 1 40,
 ldO 23 40 41,
 faO 25 1 2 42,
 ldO 23 42 43,
 faO 25 1 3 44,
 ldO 23 44 45,
 ⟨none,.buildSlice 258 3 #[(0,(.tmp 41)),(1,(.tmp 43)),(2,(.tmp 45))],(some 46)⟩,
 ⟨none,.call {callee:=.builtin .len,args:=#[(.tmp 46)],argTypes:=#[258]},(some 47)⟩,
 ⟨none,.move (.const (.int .i64 0)),(some 48)⟩]
def sc83r6:List SOp:=[⟨none,.binOp .lss 3 (.tmp 48) (.tmp 47) 3,(some 49)⟩]
def sc83r7:List SOp:=[⟨none,.indexAddr 258 (.tmp 46) (.tmp 48),(some 50)⟩,
 ldO 23 50 51,
 asO 51 6]
def sc83r8:List SOp:=[mvO 6 52,
 ⟨none,.call {callee:=.builtin .len,args:=#[(.tmp 52)],argTypes:=#[23]},(some 53)⟩,
 ⟨none,.move (.const (.int .i64 0)),(some 54)⟩]
def sc83r9:List SOp:=[⟨none,.binOp .lss 3 (.tmp 54) (.tmp 53) 3,(some 55)⟩]
def sc83r10:List SOp:=[mvO 54 56,
 ⟨none,.indexAddr 23 (.tmp 52) (.tmp 54),(some 57)⟩,
 ldO 3 57 58,
 asO 56 7,
 asO 58 8]
def sc83r11:List SOp:=[mvO 8 59,
 ⟨none,.binOp .lss 3 (.tmp 59) (.const (.int .i64 2)) 3,(some 60)⟩,
 mvO 60 61,
 ⟨(some (some 61,false)),.move (.tmp 8),(some 62)⟩,
 ⟨(some (some 61,false)),.move (.tmp 3),(some 63)⟩,
 ⟨(some (some 61,false)),.binOp .geq 3 (.tmp 62) (.tmp 63) 3,(some 64)⟩,
 ⟨none,.pick (.tmp 61) (.const (.bool true)) (.tmp 64),(some 65)⟩,
 mvO 65 66,
 ⟨(some (some 66,false)),.move (.tmp 4),(some 67)⟩,
 ⟨(some (some 66,false)),.move (.tmp 8),(some 68)⟩,
 ⟨(some (some 66,false)),.indexAddr 150 (.tmp 67) (.tmp 68),(some 69)⟩,
 ⟨(some (some 66,false)),.load 4 (.tmp 69),(some 70)⟩,
 ⟨none,.pick (.tmp 66) (.const (.bool true)) (.tmp 70),(some 71)⟩,
 mvO 71 72,
 ⟨(some (some 72,false)),.move (.tmp 7),(some 73)⟩,
 ⟨(some (some 72,false)),.binOp .gtr 3 (.tmp 73) (.const (.int .i64 0)) 3,(some 74)⟩,
 ⟨(some (some 72,false)),.move (.tmp 74),(some 75)⟩,
 ⟨(some (some 75,true)),.move (.tmp 8),(some 76)⟩,
 ⟨(some (some 75,true)),.move (.tmp 6),(some 77)⟩,
 ⟨(some (some 75,true)),.move (.tmp 7),(some 78)⟩,
 ⟨(some (some 75,true)),.binOp .sub 3 (.tmp 78) (.const (.int .i64 1)) 3,(some 79)⟩,
 ⟨(some (some 75,true)),.indexAddr 23 (.tmp 77) (.tmp 79),(some 80)⟩,
 ⟨(some (some 75,true)),.load 3 (.tmp 80),(some 81)⟩,
 ⟨(some (some 75,true)),.binOp .leq 3 (.tmp 76) (.tmp 81) 3,(some 82)⟩,
 ⟨(some (some 72,false)),.pick (.tmp 75) (.tmp 82) (.const (.bool false)),(some 83)⟩,
 ⟨none,.pick (.tmp 72) (.const (.bool true)) (.tmp 83),(some 84)⟩]
def sc83r12:List SOp:=[⟨none,.assign (.const (.int .i64 2)),(some 2)⟩]
def sc83r13:List SOp:=[mvO 4 85,
 mvO 8 86,
 ⟨none,.indexAddr 150 (.tmp 85) (.tmp 86),(some 87)⟩,
 ⟨none,.store 4 (.tmp 87) (.const (.bool true)),none⟩]
def sc83r14:List SOp:=[⟨none,.binOp .add 3 (.tmp 54) (.const (.int .i64 1)) 3,(some 88)⟩,
 mvO 88 54]
def sc83l15:SC:=(.seq (.reg sc83r9) (.seq (.cond (.tmp 55) .skip (.exit 2)) (.seq (.block 3 (.seq (.reg sc83r10) (.seq (.seq (.reg sc83r11) (.cond (.tmp 84) (.seq (.reg sc83r12) .ret) .skip)) (.reg sc83r13)))) (.reg sc83r14))))
def sc83r16:List SOp:=[⟨none,.binOp .add 3 (.tmp 48) (.const (.int .i64 1)) 3,(some 89)⟩,
 mvO 89 48]
def sc83l17:SC:=(.seq (.reg sc83r6) (.seq (.cond (.tmp 49) .skip (.exit 0)) (.seq (.block 1 (.seq (.reg sc83r7) (.seq (.reg sc83r8) (.block 2 (.loop sc83l15))))) (.reg sc83r16))))
def sc83r18:List SOp:=[⟨none,.assign (.const (.int .i64 0)),(some 2)⟩]
def sc83:SC:=(.seq (.reg sc83r0) (.seq (.reg sc83r1) (.seq (.seq (.reg sc83r2) (.cond (.tmp 37) (.seq (.reg sc83r3) .ret) .skip)) (.seq (.reg sc83r4) (.seq (.seq (.reg sc83r5) (.block 0 (.loop sc83l17))) (.seq (.reg sc83r18) .ret))))))
theorem sc83_ok:Tryz.f83.body.map tr=some sc83:=by kernel_rfl
theorem fn83:cx.fn 83=some Tryz.f83:=by kernel_rfl
theorem sc83_dst:okS 90 sc83=true:=by kernel_rfl
theorem ct83:CT 83 90 sc83 [.tmp 2]:=fun ho ha=>ct_sc fn83 sc83_ok rfl rfl ho ha sc83_dst
-- understory/understoryref07.increasing
def sc147r0:List SOp:=[⟨none,.assign (.const (.string (ByteArray.mk #[]))),(some 4)⟩]
def sc147r1:List SOp:=[mvO 1 7,
 ⟨none,.makeSlice 117 (.tmp 7) (.tmp 7),(some 8)⟩,
 asO 8 5]
def sc147r2:List SOp:=[mvO 1 9,
 ⟨none,.binOp .sub 3 (.tmp 9) (.const (.int .i64 1)) 3,(some 10)⟩,
 asO 10 6]
def sc147r3:List SOp:=[mvO 6 11,
 ⟨none,.binOp .geq 3 (.tmp 11) (.const (.int .i64 0)) 3,(some 12)⟩]
def sc147r4:List SOp:=[mvO 5 15,
 mvO 6 16,
 mvO 0 17,
 ⟨none,.binOp .rem 3 (.tmp 17) (.const (.int .i64 256)) 3,(some 18)⟩,
 ⟨none,.convert 3 5 (.tmp 18),(some 19)⟩,
 ⟨none,.indexAddr 117 (.tmp 15) (.tmp 16),(some 20)⟩,
 ⟨none,.store 5 (.tmp 20) (.tmp 19),none⟩]
def sc147r5:List SOp:=[mvO 0 21,
 ⟨none,.binOp .quo 3 (.tmp 21) (.const (.int .i64 256)) 3,(some 22)⟩,
 asO 22 0]
def sc147r6:List SOp:=[mvO 6 13,
 ⟨none,.binOp .sub 3 (.tmp 13) (.const (.int .i64 1)) 3,(some 14)⟩,
 asO 14 6]
def sc147l7:SC:=(.seq (.seq (.reg sc147r3) (.cond (.tmp 12) .skip (.exit 0))) (.seq (.block 1 (.seq (.reg sc147r4) (.reg sc147r5))) (.reg sc147r6)))
def sc147r8:List SOp:=[mvO 5 23,
 ⟨none,.convert 117 9 (.tmp 23),(some 24)⟩,
 asO 24 4]
def sc147:SC:=(.seq (.reg sc147r0) (.seq (.reg sc147r1) (.seq (.seq (.reg sc147r2) (.block 0 (.loop sc147l7))) (.seq (.reg sc147r8) .ret))))
theorem sc147_ok:Tryz.f147.body.map tr=some sc147:=by kernel_rfl
theorem fn147:cx.fn 147=some Tryz.f147:=by kernel_rfl
theorem ext147:cx.ext 147=none:=by kernel_rfl
theorem sc147_dst:okS 25 sc147=true:=by kernel_rfl
theorem ct147:CT 147 25 sc147 [.tmp 4]:=fun ho ha=>ct_sc fn147 sc147_ok rfl rfl ho ha sc147_dst
-- understory/cursor.plausible
theorem fa0(k:Nat):fieldAddr? cx 25 (.ptr k 0) 0=some (.ptr k 0):=fieldAddr_ptr (m:=0) f25_0 s22
theorem fa1(k:Nat):fieldAddr? cx 25 (.ptr k 0) 1=some (.ptr k 1):=fieldAddr_ptr (m:=0) f25_1 s23
theorem fa2(k:Nat):fieldAddr? cx 25 (.ptr k 0) 2=some (.ptr k 2):=fieldAddr_ptr (m:=0) f25_2 s23
theorem fa3(k:Nat):fieldAddr? cx 25 (.ptr k 0) 3=some (.ptr k 3):=fieldAddr_ptr (m:=0) f25_3 s23
theorem fa4(k:Nat):fieldAddr? cx 25 (.ptr k 0) 4=some (.ptr k 4):=fieldAddr_ptr (m:=0) f25_4 s3
theorem fa5(k:Nat):fieldAddr? cx 25 (.ptr k 0) 5=some (.ptr k 5):=fieldAddr_ptr (m:=0) f25_5 s3
def rwE:=And.intro @opW_recover <| And.intro @recW_pan <| And.intro @recW_ret <| And.intro @opW_defer @deferW_fn
def rwF:=And.intro @opD_nilCheck <| And.intro @nilW_ptr <| And.intro @opD_assert <| And.intro @opD_face <| And.intro @opD_slice3 <| And.intro @opD_clear <| And.intro @opD_box <| And.intro @boxW_agg <| And.intro @boxW_pagg @opD_makeSlice
def rwU:=And.intro @u3 <| And.intro @u4 <| And.intro @u5 <| And.intro @u9 <| And.intro @u96 <| And.intro @u36 <| And.intro @u117 <| And.intro @s3 <| And.intro @s4 <| And.intro @s5 <| And.intro @s9 <| And.intro @s96 <| And.intro @s36 <| And.intro @s117 <| And.intro @a3 <| And.intro @a4 <| And.intro @a5 <| And.intro @a9 <| And.intro @a96 <| And.intro @a36 @a117
def rwV:=And.intro @u22 <| And.intro @u23 <| And.intro @s22 <| And.intro @s23 <| And.intro @a22 <| And.intro @a23 <| And.intro @u150 <| And.intro @u258 <| And.intro @s150 <| And.intro @s258 <| And.intro @s25 <| And.intro @a25 <| And.intro @s62 <| And.intro @a62 <| And.intro @s257 @a257
def rwS:=And.intro @rwA @rwE
def rwT:=And.intro @rwB <| And.intro @rwF <| And.intro @rwU @rwV
def spT(f:Nat):Bool:=elemN f [7,17,323,296]
def FreeT(o:Orc):Prop:=∀ f args h,spT f=false→o f args h=none
end Go.Proofs

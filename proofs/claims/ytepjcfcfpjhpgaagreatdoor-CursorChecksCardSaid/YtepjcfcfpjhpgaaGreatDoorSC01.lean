/- What is proved: short code of the functions that the cursors' law calls is their code; facts of types; rules for rewriting. Conditions: none. -/
import Derived.Test.YtepjcfcfpjhpgaaGreatDoorSA10
import Derived.Test.YtepjcfcfpjhpgaaGreatDoorSB01
import Derived.KernelRfl
import Derived.Test.YtepjcfcfpjhpgaaGreatDoorSA11
import Derived.Test.YtepjcfcfpjhpgaaGreatDoorSA12
set_option linter.all false
set_option maxRecDepth 100000
namespace Go.Proofs
open Go Go.Ai
-- (*understory/digest.hasher).block
def sc341r0:List SOp:=[⟨none,.alloc 384,(some 4)⟩]
def sc341r1:List SOp:=[⟨none,.move (.const (.int .i64 0)),(some 22)⟩]
def sc341r2:List SOp:=[⟨none,.binOp .lss 3 (.tmp 22) (.const (.int .i64 64)) 3,(some 23)⟩]
def sc341r3:List SOp:=[⟨none,.move (.tmp 22),(some 24)⟩,
 ⟨none,.assign (.tmp 24),(some 5)⟩]
def sc341r4:List SOp:=[⟨none,.move (.tmp 5),(some 25)⟩,
 ⟨none,.binOp .lss 3 (.tmp 25) (.const (.int .i64 16)) 3,(some 26)⟩]
def sc341r5:List (SOp×DK):=[(⟨none,.move (.tmp 5),(some 27)⟩,.L 0 0 []),
 (⟨none,.move (.tmp 1),(some 28)⟩,.L 0 0 []),
 (⟨none,.move (.tmp 5),(some 29)⟩,.L 0 0 []),
 (⟨none,.binOp .mul 3 (.const (.int .i64 4)) (.tmp 29) 3,(some 30)⟩,.L 0 0 []),
 (⟨none,.index 9 (.tmp 28) (.tmp 30),(some 31)⟩,.L 0 0 []),
 (⟨none,.convert 5 290 (.tmp 31),(some 32)⟩,.L 0 0 []),
 (⟨none,.binOp .shl 290 (.tmp 32) (.const (.int .u64 24)) 232,(some 33)⟩,.L 0 0 []),
 (⟨none,.move (.tmp 1),(some 34)⟩,.L 0 0 []),
 (⟨none,.move (.tmp 5),(some 35)⟩,.L 0 0 []),
 (⟨none,.binOp .mul 3 (.const (.int .i64 4)) (.tmp 35) 3,(some 36)⟩,.L 0 0 []),
 (⟨none,.binOp .add 3 (.tmp 36) (.const (.int .i64 1)) 3,(some 37)⟩,.L 0 0 []),
 (⟨none,.index 9 (.tmp 34) (.tmp 37),(some 38)⟩,.L 0 0 []),
 (⟨none,.convert 5 290 (.tmp 38),(some 39)⟩,.L 0 0 []),
 (⟨none,.binOp .shl 290 (.tmp 39) (.const (.int .u64 16)) 232,(some 40)⟩,.L 0 0 []),
 (⟨none,.binOp .or 290 (.tmp 33) (.tmp 40) 290,(some 41)⟩,.L 0 0 []),
 (⟨none,.move (.tmp 1),(some 42)⟩,.L 0 0 []),
 (⟨none,.move (.tmp 5),(some 43)⟩,.L 0 0 []),
 (⟨none,.binOp .mul 3 (.const (.int .i64 4)) (.tmp 43) 3,(some 44)⟩,.L 0 0 []),
 (⟨none,.binOp .add 3 (.tmp 44) (.const (.int .i64 2)) 3,(some 45)⟩,.L 0 0 []),
 (⟨none,.index 9 (.tmp 42) (.tmp 45),(some 46)⟩,.L 0 0 []),
 (⟨none,.convert 5 290 (.tmp 46),(some 47)⟩,.L 0 0 []),
 (⟨none,.binOp .shl 290 (.tmp 47) (.const (.int .u64 8)) 232,(some 48)⟩,.L 0 0 []),
 (⟨none,.binOp .or 290 (.tmp 41) (.tmp 48) 290,(some 49)⟩,.L 0 0 []),
 (⟨none,.move (.tmp 1),(some 50)⟩,.L 0 0 []),
 (⟨none,.move (.tmp 5),(some 51)⟩,.L 0 0 []),
 (⟨none,.binOp .mul 3 (.const (.int .i64 4)) (.tmp 51) 3,(some 52)⟩,.L 0 0 []),
 (⟨none,.binOp .add 3 (.tmp 52) (.const (.int .i64 3)) 3,(some 53)⟩,.L 0 0 []),
 (⟨none,.index 9 (.tmp 50) (.tmp 53),(some 54)⟩,.L 0 0 []),
 (⟨none,.convert 5 290 (.tmp 54),(some 55)⟩,.L 0 0 []),
 (⟨none,.binOp .or 290 (.tmp 49) (.tmp 55) 290,(some 56)⟩,.L 0 0 []),
 (⟨none,.indexAddr 384 (.tmp 4) (.tmp 27),(some 57)⟩,.L 0 0 []),
 (⟨none,.store 290 (.tmp 57) (.tmp 56),none⟩,.A [27,28,29,30,31,32,33,34,35,36,37,38,39,40,41,42,43,44,45,46,47,48,49,50,51,52,53,54,55,56,57] [])]
def sc341d5:SC:=.draw sc341r5
theorem sc341d5_x{o rd Q t h d r}:xC cx o rd sc341d5 Q t h d r=xDraw cx o rd Q sc341r5 0 [h] [] [] t h d r:=xC_draw (by kernel_rfl)
def sc341r6:List (SOp×DK):=[(⟨none,.move (.tmp 5),(some 58)⟩,.L 0 0 []),
 (⟨none,.binOp .sub 3 (.tmp 58) (.const (.int .i64 15)) 3,(some 59)⟩,.L 0 0 []),
 (⟨none,.indexAddr 384 (.tmp 4) (.tmp 59),(some 60)⟩,.L 0 0 []),
 (⟨none,.load 290 (.tmp 60),(some 61)⟩,.L 0 0 []),
 (⟨none,.move (.tmp 5),(some 62)⟩,.L 0 0 []),
 (⟨none,.binOp .sub 3 (.tmp 62) (.const (.int .i64 2)) 3,(some 63)⟩,.L 0 0 []),
 (⟨none,.indexAddr 384 (.tmp 4) (.tmp 63),(some 64)⟩,.L 0 0 []),
 (⟨none,.load 290 (.tmp 64),(some 65)⟩,.L 0 0 []),
 (⟨none,.assign (.tmp 61),(some 6)⟩,.L 0 0 []),
 (⟨none,.assign (.tmp 65),(some 7)⟩,.L 0 0 [])]
def sc341d6:SC:=.draw sc341r6
theorem sc341d6_x{o rd Q t h d r}:xC cx o rd sc341d6 Q t h d r=xDraw cx o rd Q sc341r6 0 [h] [] [] t h d r:=xC_draw (by kernel_rfl)
def sc341r7:List SOp:=[⟨none,.move (.tmp 6),(some 66)⟩,
 ⟨none,.call {callee:=.value (.func 373),args:=#[(.tmp 66),(.const (.int .i64 (-7)))],argTypes:=#[290,3]},(some 67)⟩,
 ⟨none,.move (.tmp 6),(some 68)⟩,
 ⟨none,.call {callee:=.value (.func 373),args:=#[(.tmp 68),(.const (.int .i64 (-18)))],argTypes:=#[290,3]},(some 69)⟩,
 ⟨none,.binOp .xor 290 (.tmp 67) (.tmp 69) 290,(some 70)⟩,
 ⟨none,.move (.tmp 6),(some 71)⟩,
 ⟨none,.binOp .shr 290 (.tmp 71) (.const (.int .u64 3)) 232,(some 72)⟩,
 ⟨none,.binOp .xor 290 (.tmp 70) (.tmp 72) 290,(some 73)⟩,
 ⟨none,.assign (.tmp 73),(some 8)⟩]
def sc341r8:List SOp:=[⟨none,.move (.tmp 7),(some 74)⟩,
 ⟨none,.call {callee:=.value (.func 373),args:=#[(.tmp 74),(.const (.int .i64 (-17)))],argTypes:=#[290,3]},(some 75)⟩,
 ⟨none,.move (.tmp 7),(some 76)⟩,
 ⟨none,.call {callee:=.value (.func 373),args:=#[(.tmp 76),(.const (.int .i64 (-19)))],argTypes:=#[290,3]},(some 77)⟩,
 ⟨none,.binOp .xor 290 (.tmp 75) (.tmp 77) 290,(some 78)⟩,
 ⟨none,.move (.tmp 7),(some 79)⟩,
 ⟨none,.binOp .shr 290 (.tmp 79) (.const (.int .u64 10)) 232,(some 80)⟩,
 ⟨none,.binOp .xor 290 (.tmp 78) (.tmp 80) 290,(some 81)⟩,
 ⟨none,.assign (.tmp 81),(some 9)⟩]
def sc341r9:List (SOp×DK):=[(⟨none,.move (.tmp 5),(some 82)⟩,.L 0 0 []),
 (⟨none,.move (.tmp 5),(some 83)⟩,.L 0 0 []),
 (⟨none,.binOp .sub 3 (.tmp 83) (.const (.int .i64 16)) 3,(some 84)⟩,.L 0 0 []),
 (⟨none,.indexAddr 384 (.tmp 4) (.tmp 84),(some 85)⟩,.L 0 0 []),
 (⟨none,.load 290 (.tmp 85),(some 86)⟩,.L 0 0 []),
 (⟨none,.move (.tmp 8),(some 87)⟩,.L 0 0 []),
 (⟨none,.binOp .add 290 (.tmp 86) (.tmp 87) 290,(some 88)⟩,.L 0 0 []),
 (⟨none,.move (.tmp 5),(some 89)⟩,.L 0 0 []),
 (⟨none,.binOp .sub 3 (.tmp 89) (.const (.int .i64 7)) 3,(some 90)⟩,.L 0 0 []),
 (⟨none,.indexAddr 384 (.tmp 4) (.tmp 90),(some 91)⟩,.L 0 0 []),
 (⟨none,.load 290 (.tmp 91),(some 92)⟩,.L 0 0 []),
 (⟨none,.binOp .add 290 (.tmp 88) (.tmp 92) 290,(some 93)⟩,.L 0 0 []),
 (⟨none,.move (.tmp 9),(some 94)⟩,.L 0 0 []),
 (⟨none,.binOp .add 290 (.tmp 93) (.tmp 94) 290,(some 95)⟩,.L 0 0 []),
 (⟨none,.indexAddr 384 (.tmp 4) (.tmp 82),(some 96)⟩,.L 0 0 []),
 (⟨none,.store 290 (.tmp 96) (.tmp 95),none⟩,.A [82,83,84,85,86,87,88,89,90,91,92,93,94,95,96] [])]
def sc341d9:SC:=.draw sc341r9
theorem sc341d9_x{o rd Q t h d r}:xC cx o rd sc341d9 Q t h d r=xDraw cx o rd Q sc341r9 0 [h] [] [] t h d r:=xC_draw (by kernel_rfl)
def sc341r10:List SOp:=[⟨none,.binOp .add 3 (.tmp 22) (.const (.int .i64 1)) 3,(some 97)⟩,
 ⟨none,.move (.tmp 97),(some 22)⟩]
def sc341l11:SC:=(.seq (.reg sc341r2) (.seq (.cond (.tmp 23) .skip (.exit 0)) (.seq (.block 1 (.seq (.reg sc341r3) (.seq (.seq (.reg sc341r4) (.cond (.tmp 26) (.seq sc341d5 (.exit 1)) .skip)) (.seq sc341d6 (.seq (.reg sc341r7) (.seq (.reg sc341r8) sc341d9)))))) (.reg sc341r10))))
def sc341r12:List SOp:=[⟨none,.move (.tmp 0),(some 98)⟩,
 ⟨none,.nilCheck (.tmp 98),(some 99)⟩,
 ⟨none,.fieldAddr 390 (.tmp 99) 0,(some 100)⟩,
 ⟨none,.fieldAddr 293 (.tmp 100) 0,(some 101)⟩,
 ⟨none,.load 291 (.tmp 101),(some 102)⟩,
 ⟨none,.alloc 291,(some 10)⟩,
 ⟨none,.store 291 (.tmp 10) (.tmp 102),none⟩]
def sc341r13:List SOp:=[⟨none,.move (.const (.int .i64 0)),(some 103)⟩]
def sc341r14:List SOp:=[⟨none,.binOp .lss 3 (.tmp 103) (.const (.int .i64 64)) 3,(some 104)⟩]
def sc341r15:List SOp:=[⟨none,.move (.tmp 103),(some 105)⟩,
 ⟨none,.assign (.tmp 105),(some 11)⟩]
def sc341r16:List (SOp×DK):=[(⟨none,.indexAddr 291 (.tmp 10) (.const (.int .i64 0)),(some 106)⟩,.L 0 0 []),
 (⟨none,.load 290 (.tmp 106),(some 107)⟩,.L 0 0 []),
 (⟨none,.indexAddr 291 (.tmp 10) (.const (.int .i64 1)),(some 108)⟩,.L 0 0 []),
 (⟨none,.load 290 (.tmp 108),(some 109)⟩,.L 0 0 []),
 (⟨none,.indexAddr 291 (.tmp 10) (.const (.int .i64 2)),(some 110)⟩,.L 0 0 []),
 (⟨none,.load 290 (.tmp 110),(some 111)⟩,.L 0 0 []),
 (⟨none,.assign (.tmp 107),(some 12)⟩,.L 0 0 []),
 (⟨none,.assign (.tmp 109),(some 13)⟩,.L 0 0 []),
 (⟨none,.assign (.tmp 111),(some 14)⟩,.L 0 0 [])]
def sc341d16:SC:=.draw sc341r16
theorem sc341d16_x{o rd Q t h d r}:xC cx o rd sc341d16 Q t h d r=xDraw cx o rd Q sc341r16 0 [h] [] [] t h d r:=xC_draw (by kernel_rfl)
def sc341r17:List (SOp×DK):=[(⟨none,.indexAddr 291 (.tmp 10) (.const (.int .i64 4)),(some 112)⟩,.L 0 0 []),
 (⟨none,.load 290 (.tmp 112),(some 113)⟩,.L 0 0 []),
 (⟨none,.indexAddr 291 (.tmp 10) (.const (.int .i64 5)),(some 114)⟩,.L 0 0 []),
 (⟨none,.load 290 (.tmp 114),(some 115)⟩,.L 0 0 []),
 (⟨none,.indexAddr 291 (.tmp 10) (.const (.int .i64 6)),(some 116)⟩,.L 0 0 []),
 (⟨none,.load 290 (.tmp 116),(some 117)⟩,.L 0 0 []),
 (⟨none,.assign (.tmp 113),(some 15)⟩,.L 0 0 []),
 (⟨none,.assign (.tmp 115),(some 16)⟩,.L 0 0 []),
 (⟨none,.assign (.tmp 117),(some 17)⟩,.L 0 0 [])]
def sc341d17:SC:=.draw sc341r17
theorem sc341d17_x{o rd Q t h d r}:xC cx o rd sc341d17 Q t h d r=xDraw cx o rd Q sc341r17 0 [h] [] [] t h d r:=xC_draw (by kernel_rfl)
def sc341r18:List (SOp×DK):=[(⟨none,.indexAddr 291 (.tmp 10) (.const (.int .i64 7)),(some 118)⟩,.L 0 3 []),
 (⟨none,.load 290 (.tmp 118),(some 119)⟩,.L 0 3 []),
 (⟨none,.move (.tmp 15),(some 120)⟩,.L 0 0 []),
 (⟨none,.call {callee:=.value (.func 373),args:=#[(.tmp 120),(.const (.int .i64 (-6)))],argTypes:=#[290,3]},(some 121)⟩,.A [118,119,120,121,122,125,129,130,131,132,133,134,135,136,138,139,140,141,142,143,145,146,147] [118,119,122,125,129,130,131,132,133,134,135,136,138,139,140,141,142,143,145,146,147]),
 (⟨none,.move (.tmp 15),(some 122)⟩,.L 0 1 []),
 (⟨none,.call {callee:=.value (.func 373),args:=#[(.tmp 122),(.const (.int .i64 (-11)))],argTypes:=#[290,3]},(some 123)⟩,.A [118,119,120,121,122,123,125,129,130,131,132,133,134,135,136,138,139,140,141,142,143,145,146,147] [118,119,125,129,130,131,132,133,134,135,136,138,139,140,141,142,143,145,146,147]),
 (⟨none,.binOp .xor 290 (.tmp 121) (.tmp 123) 290,(some 124)⟩,.L 2 3 []),
 (⟨none,.move (.tmp 15),(some 125)⟩,.L 0 2 []),
 (⟨none,.call {callee:=.value (.func 373),args:=#[(.tmp 125),(.const (.int .i64 (-25)))],argTypes:=#[290,3]},(some 126)⟩,.A [118,119,120,121,122,123,124,125,126,129,130,131,132,133,134,135,136,138,139,140,141,142,143,145,146,147] [118,119,124,129,130,131,132,133,134,135,136,138,139,140,141,142,143,145,146,147]),
 (⟨none,.binOp .xor 290 (.tmp 124) (.tmp 126) 290,(some 127)⟩,.L 3 3 []),
 (⟨none,.binOp .add 290 (.tmp 119) (.tmp 127) 290,(some 128)⟩,.L 3 3 []),
 (⟨none,.move (.tmp 15),(some 129)⟩,.L 0 3 []),
 (⟨none,.move (.tmp 16),(some 130)⟩,.L 0 3 []),
 (⟨none,.binOp .and 290 (.tmp 129) (.tmp 130) 290,(some 131)⟩,.L 0 3 []),
 (⟨none,.move (.tmp 15),(some 132)⟩,.L 0 3 []),
 (⟨none,.unOp .xor 290 (.tmp 132),(some 133)⟩,.L 0 3 []),
 (⟨none,.move (.tmp 17),(some 134)⟩,.L 0 3 []),
 (⟨none,.binOp .and 290 (.tmp 133) (.tmp 134) 290,(some 135)⟩,.L 0 3 []),
 (⟨none,.binOp .xor 290 (.tmp 131) (.tmp 135) 290,(some 136)⟩,.L 0 3 []),
 (⟨none,.binOp .add 290 (.tmp 128) (.tmp 136) 290,(some 137)⟩,.L 3 3 []),
 (⟨none,.move (.tmp 0),(some 138)⟩,.L 0 3 []),
 (⟨none,.move (.tmp 11),(some 139)⟩,.L 0 3 []),
 (⟨none,.nilCheck (.tmp 138),(some 140)⟩,.L 0 3 []),
 (⟨none,.fieldAddr 390 (.tmp 140) 1,(some 141)⟩,.L 0 3 []),
 (⟨none,.indexAddr 384 (.tmp 141) (.tmp 139),(some 142)⟩,.L 0 3 []),
 (⟨none,.load 290 (.tmp 142),(some 143)⟩,.L 0 3 []),
 (⟨none,.binOp .add 290 (.tmp 137) (.tmp 143) 290,(some 144)⟩,.L 3 3 []),
 (⟨none,.move (.tmp 11),(some 145)⟩,.L 0 3 []),
 (⟨none,.indexAddr 384 (.tmp 4) (.tmp 145),(some 146)⟩,.L 0 3 []),
 (⟨none,.load 290 (.tmp 146),(some 147)⟩,.L 0 3 []),
 (⟨none,.binOp .add 290 (.tmp 144) (.tmp 147) 290,(some 148)⟩,.L 3 3 []),
 (⟨none,.assign (.tmp 148),(some 18)⟩,.L 3 3 [])]
def sc341d18:SC:=.draw sc341r18
theorem sc341d18_x{o rd Q t h d r}:xC cx o rd sc341d18 Q t h d r=xDraw cx o rd Q sc341r18 0 [h] [] [] t h d r:=xC_draw (by kernel_rfl)
def sc341r19:List SOp:=[⟨none,.move (.tmp 12),(some 149)⟩,
 ⟨none,.call {callee:=.value (.func 373),args:=#[(.tmp 149),(.const (.int .i64 (-2)))],argTypes:=#[290,3]},(some 150)⟩,
 ⟨none,.move (.tmp 12),(some 151)⟩,
 ⟨none,.call {callee:=.value (.func 373),args:=#[(.tmp 151),(.const (.int .i64 (-13)))],argTypes:=#[290,3]},(some 152)⟩,
 ⟨none,.binOp .xor 290 (.tmp 150) (.tmp 152) 290,(some 153)⟩,
 ⟨none,.move (.tmp 12),(some 154)⟩,
 ⟨none,.call {callee:=.value (.func 373),args:=#[(.tmp 154),(.const (.int .i64 (-22)))],argTypes:=#[290,3]},(some 155)⟩,
 ⟨none,.binOp .xor 290 (.tmp 153) (.tmp 155) 290,(some 156)⟩,
 ⟨none,.move (.tmp 12),(some 157)⟩,
 ⟨none,.move (.tmp 13),(some 158)⟩,
 ⟨none,.binOp .and 290 (.tmp 157) (.tmp 158) 290,(some 159)⟩,
 ⟨none,.move (.tmp 12),(some 160)⟩,
 ⟨none,.move (.tmp 14),(some 161)⟩,
 ⟨none,.binOp .and 290 (.tmp 160) (.tmp 161) 290,(some 162)⟩,
 ⟨none,.binOp .xor 290 (.tmp 159) (.tmp 162) 290,(some 163)⟩,
 ⟨none,.move (.tmp 13),(some 164)⟩,
 ⟨none,.move (.tmp 14),(some 165)⟩,
 ⟨none,.binOp .and 290 (.tmp 164) (.tmp 165) 290,(some 166)⟩,
 ⟨none,.binOp .xor 290 (.tmp 163) (.tmp 166) 290,(some 167)⟩,
 ⟨none,.binOp .add 290 (.tmp 156) (.tmp 167) 290,(some 168)⟩,
 ⟨none,.assign (.tmp 168),(some 19)⟩]
def sc341r20:List SOp:=[⟨none,.move (.tmp 18),(some 169)⟩,
 ⟨none,.move (.tmp 19),(some 170)⟩,
 ⟨none,.binOp .add 290 (.tmp 169) (.tmp 170) 290,(some 171)⟩,
 ⟨none,.move (.tmp 12),(some 172)⟩,
 ⟨none,.move (.tmp 13),(some 173)⟩,
 ⟨none,.move (.tmp 14),(some 174)⟩,
 ⟨none,.indexAddr 291 (.tmp 10) (.const (.int .i64 3)),(some 175)⟩,
 ⟨none,.load 290 (.tmp 175),(some 176)⟩,
 ⟨none,.move (.tmp 18),(some 177)⟩,
 ⟨none,.binOp .add 290 (.tmp 176) (.tmp 177) 290,(some 178)⟩,
 ⟨none,.move (.tmp 15),(some 179)⟩,
 ⟨none,.move (.tmp 16),(some 180)⟩,
 ⟨none,.move (.tmp 17),(some 181)⟩,
 ⟨none,.build 291 #[(0,(.tmp 171)),(1,(.tmp 172)),(2,(.tmp 173)),(3,(.tmp 174)),(4,(.tmp 178)),(5,(.tmp 179)),(6,(.tmp 180)),(7,(.tmp 181))],(some 182)⟩,
 ⟨none,.store 291 (.tmp 10) (.tmp 182),none⟩]
def sc341r21:List SOp:=[⟨none,.binOp .add 3 (.tmp 103) (.const (.int .i64 1)) 3,(some 183)⟩,
 ⟨none,.move (.tmp 183),(some 103)⟩]
def sc341l22:SC:=(.seq (.reg sc341r14) (.seq (.cond (.tmp 104) .skip (.exit 2)) (.seq (.block 3 (.seq (.reg sc341r15) (.seq sc341d16 (.seq sc341d17 (.seq sc341d18 (.seq (.reg sc341r19) (.reg sc341r20))))))) (.reg sc341r21))))
def sc341r23:List SOp:=[⟨none,.load 291 (.tmp 10),(some 184)⟩,
 ⟨none,.move (.const (.int .i64 0)),(some 185)⟩]
def sc341r24:List SOp:=[⟨none,.binOp .lss 3 (.tmp 185) (.const (.int .i64 8)) 3,(some 186)⟩]
def sc341r25:List SOp:=[⟨none,.move (.tmp 185),(some 187)⟩,
 ⟨none,.index 291 (.tmp 184) (.tmp 185),(some 188)⟩,
 ⟨none,.assign (.tmp 187),(some 20)⟩,
 ⟨none,.assign (.tmp 188),(some 21)⟩]
def sc341r26:List (SOp×DK):=[(⟨none,.move (.tmp 0),(some 189)⟩,.L 0 0 []),
 (⟨none,.move (.tmp 20),(some 190)⟩,.L 0 0 []),
 (⟨none,.nilCheck (.tmp 189),(some 191)⟩,.L 0 0 []),
 (⟨none,.fieldAddr 390 (.tmp 191) 0,(some 192)⟩,.L 0 0 []),
 (⟨none,.fieldAddr 293 (.tmp 192) 0,(some 193)⟩,.L 0 0 []),
 (⟨none,.indexAddr 291 (.tmp 193) (.tmp 190),(some 194)⟩,.L 0 0 []),
 (⟨none,.load 290 (.tmp 194),(some 195)⟩,.L 0 0 []),
 (⟨none,.move (.tmp 21),(some 196)⟩,.L 0 0 []),
 (⟨none,.binOp .add 290 (.tmp 195) (.tmp 196) 290,(some 197)⟩,.L 0 0 []),
 (⟨none,.nilCheck (.tmp 189),(some 198)⟩,.L 0 0 []),
 (⟨none,.fieldAddr 390 (.tmp 198) 0,(some 199)⟩,.L 0 0 []),
 (⟨none,.fieldAddr 293 (.tmp 199) 0,(some 200)⟩,.L 0 0 []),
 (⟨none,.indexAddr 291 (.tmp 200) (.tmp 190),(some 201)⟩,.L 0 0 []),
 (⟨none,.store 290 (.tmp 201) (.tmp 197),none⟩,.A [189,190,191,192,193,194,195,196,197,198,199,200,201] [])]
def sc341d26:SC:=.draw sc341r26
theorem sc341d26_x{o rd Q t h d r}:xC cx o rd sc341d26 Q t h d r=xDraw cx o rd Q sc341r26 0 [h] [] [] t h d r:=xC_draw (by kernel_rfl)
def sc341r27:List SOp:=[⟨none,.binOp .add 3 (.tmp 185) (.const (.int .i64 1)) 3,(some 202)⟩,
 ⟨none,.move (.tmp 202),(some 185)⟩]
def sc341l28:SC:=(.seq (.reg sc341r24) (.seq (.cond (.tmp 186) .skip (.exit 4)) (.seq (.block 5 (.seq (.reg sc341r25) sc341d26)) (.reg sc341r27))))
def sc341:SC:=(.seq (.reg sc341r0) (.seq (.seq (.reg sc341r1) (.block 0 (.loop sc341l11))) (.seq (.reg sc341r12) (.seq (.seq (.reg sc341r13) (.block 2 (.loop sc341l22))) (.seq (.reg sc341r23) (.block 4 (.loop sc341l28)))))))
theorem sc341_ok:Tryz.f341.body.map tr=some sc341:=by kernel_rfl
theorem fn341:cx.fn 341=some Tryz.f341:=by kernel_rfl
theorem sc341_dst:okS 203 sc341=true:=by kernel_rfl
theorem ct341{o args h P} (ho:o 341 args h=none) (ha:Nat.ble args.length 203=true) (hw:xC cx o none sc341 (endP cx [] P) (argT args 0 .lf) h [] none):Ct cx o (.fn 341 args) h P:=
 ct_sc fn341 sc341_ok rfl rfl ho ha sc341_dst hw
-- math/bits.RotateLeft32
def sc373r0:List SOp:=[⟨none,.assign (.const (.int .u32 0)),(some 4)⟩]
def sc373r1:List SOp:=[⟨none,.move (.tmp 1),(some 6)⟩,
 ⟨none,.convert 3 232 (.tmp 6),(some 7)⟩,
 ⟨none,.binOp .and 232 (.tmp 7) (.const (.int .u64 31)) 232,(some 8)⟩,
 ⟨none,.assign (.tmp 8),(some 5)⟩]
def sc373r2:List SOp:=[⟨none,.move (.tmp 0),(some 9)⟩,
 ⟨none,.move (.tmp 5),(some 10)⟩,
 ⟨none,.binOp .shl 290 (.tmp 9) (.tmp 10) 232,(some 11)⟩,
 ⟨none,.move (.tmp 0),(some 12)⟩,
 ⟨none,.move (.tmp 5),(some 13)⟩,
 ⟨none,.binOp .sub 232 (.const (.int .u64 32)) (.tmp 13) 232,(some 14)⟩,
 ⟨none,.binOp .shr 290 (.tmp 12) (.tmp 14) 232,(some 15)⟩,
 ⟨none,.binOp .or 290 (.tmp 11) (.tmp 15) 290,(some 16)⟩,
 ⟨none,.assign (.tmp 16),(some 4)⟩]
def sc373:SC:=(.seq (.reg sc373r0) (.seq (.reg sc373r1) (.seq (.reg sc373r2) .ret)))
theorem sc373_ok:Tryz.f373.body.map tr=some sc373:=by kernel_rfl
theorem fn373:cx.fn 373=some Tryz.f373:=by kernel_rfl
theorem ext373:cx.ext 373=none:=by kernel_rfl
theorem sc373_dst:okS 17 sc373=true:=by kernel_rfl
theorem ct373{o args h P} (ho:o 373 args h=none) (ha:Nat.ble args.length 17=true) (hw:xC cx o none sc373 (endP cx [.tmp 4] P) (argT args 0 .lf) h [] none):Ct cx o (.fn 373 args) h P:=
 ct_sc fn373 sc373_ok rfl rfl ho ha sc373_dst hw
theorem u3:cx.under 3=some (.int .i64):=by kernel_rfl
theorem s3:sizeOf? cx 3=some 1:=by kernel_rfl
theorem a3:aggT? cx 3=some false:=by kernel_rfl
theorem z3:zero? cx 3=some (.int .i64 0):=by kernel_rfl
theorem room3:room cx 3 1000000000=true:=by kernel_rfl
theorem u4:cx.under 4=some .bool:=by kernel_rfl
theorem s4:sizeOf? cx 4=some 1:=by kernel_rfl
theorem a4:aggT? cx 4=some false:=by kernel_rfl
theorem z4:zero? cx 4=some (.bool false):=by kernel_rfl
theorem u5:cx.under 5=some (.int .u8):=by kernel_rfl
theorem s5:sizeOf? cx 5=some 1:=by kernel_rfl
theorem a5:aggT? cx 5=some false:=by kernel_rfl
theorem z5:zero? cx 5=some (.int .u8 0):=by kernel_rfl
theorem u9:cx.under 9=some .string:=by kernel_rfl
theorem s9:sizeOf? cx 9=some 1:=by kernel_rfl
theorem a9:aggT? cx 9=some false:=by kernel_rfl
theorem z9:zero? cx 9=some (.str []):=by kernel_rfl
theorem u96:cx.under 96=some (.slice 9):=by kernel_rfl
theorem s96:sizeOf? cx 96=some 1:=by kernel_rfl
theorem a96:aggT? cx 96=some false:=by kernel_rfl
theorem u36:cx.under 36=some (.int .i64):=by kernel_rfl
theorem s36:sizeOf? cx 36=some 1:=by kernel_rfl
theorem a36:aggT? cx 36=some false:=by kernel_rfl
theorem z36:zero? cx 36=some (.int .i64 0):=by kernel_rfl
theorem u117:cx.under 117=some (.slice 5):=by kernel_rfl
theorem s117:sizeOf? cx 117=some 1:=by kernel_rfl
theorem a117:aggT? cx 117=some false:=by kernel_rfl
theorem u232:cx.under 232=some (.int .u64):=by kernel_rfl
theorem u290:cx.under 290=some (.int .u32):=by kernel_rfl
theorem s290:sizeOf? cx 290=some 1:=by kernel_rfl
theorem a290:aggT? cx 290=some false:=by kernel_rfl
theorem u291:cx.under 291=some (.array 8 290):=by kernel_rfl
theorem s291:sizeOf? cx 291=some 8:=by kernel_rfl
theorem a291:aggT? cx 291=some true:=by kernel_rfl
theorem u384:cx.under 384=some (.array 64 290):=by kernel_rfl
theorem s384:sizeOf? cx 384=some 64:=by kernel_rfl
theorem s293:sizeOf? cx 293=some 10:=by kernel_rfl
theorem f293_0:(fieldOf cx 293 0).map (fun f=>(f.type,f.offset))=some (291,0):=by kernel_rfl
theorem f390_0:(fieldOf cx 390 0).map (fun f=>(f.type,f.offset))=some (293,0):=by kernel_rfl
theorem f390_1:(fieldOf cx 390 1).map (fun f=>(f.type,f.offset))=some (384,10):=by kernel_rfl
theorem u22:cx.under 22=some (.slice 62):=by kernel_rfl
theorem s22:sizeOf? cx 22=some 1:=by kernel_rfl
theorem a22:aggT? cx 22=some false:=by kernel_rfl
theorem u23:cx.under 23=some (.slice 3):=by kernel_rfl
theorem s23:sizeOf? cx 23=some 1:=by kernel_rfl
theorem a23:aggT? cx 23=some false:=by kernel_rfl
theorem z23:zero? cx 23=some (.nils):=by kernel_rfl
theorem s25:sizeOf? cx 25=some 6:=by kernel_rfl
theorem a25:aggT? cx 25=some true:=by kernel_rfl
theorem f25_0:(fieldOf cx 25 0).map (fun f=>(f.type,f.offset))=some (22,0):=by kernel_rfl
theorem f25_1:(fieldOf cx 25 1).map (fun f=>(f.type,f.offset))=some (23,1):=by kernel_rfl
theorem f25_2:(fieldOf cx 25 2).map (fun f=>(f.type,f.offset))=some (23,2):=by kernel_rfl
theorem f25_3:(fieldOf cx 25 3).map (fun f=>(f.type,f.offset))=some (23,3):=by kernel_rfl
theorem f25_4:(fieldOf cx 25 4).map (fun f=>(f.type,f.offset))=some (3,4):=by kernel_rfl
theorem f25_5:(fieldOf cx 25 5).map (fun f=>(f.type,f.offset))=some (3,5):=by kernel_rfl
theorem s29:sizeOf? cx 29=some 18:=by kernel_rfl
theorem a29:aggT? cx 29=some true:=by kernel_rfl
theorem f29_0:(fieldOf cx 29 0).map (fun f=>(f.type,f.offset))=some (3,0):=by kernel_rfl
theorem f29_1:(fieldOf cx 29 1).map (fun f=>(f.type,f.offset))=some (3,1):=by kernel_rfl
theorem s64:sizeOf? cx 64=some 22:=by kernel_rfl
theorem a64:aggT? cx 64=some true:=by kernel_rfl
theorem f64_0:(fieldOf cx 64 0).map (fun f=>(f.type,f.offset))=some (9,0):=by kernel_rfl
theorem f64_1:(fieldOf cx 64 1).map (fun f=>(f.type,f.offset))=some (9,1):=by kernel_rfl
theorem f64_2:(fieldOf cx 64 2).map (fun f=>(f.type,f.offset))=some (3,2):=by kernel_rfl
theorem f64_3:(fieldOf cx 64 3).map (fun f=>(f.type,f.offset))=some (3,3):=by kernel_rfl
theorem f64_4:(fieldOf cx 64 4).map (fun f=>(f.type,f.offset))=some (3,4):=by kernel_rfl
theorem f64_5:(fieldOf cx 64 5).map (fun f=>(f.type,f.offset))=some (3,5):=by kernel_rfl
theorem f64_6:(fieldOf cx 64 6).map (fun f=>(f.type,f.offset))=some (27,6):=by kernel_rfl
theorem s62:sizeOf? cx 62=some 10:=by kernel_rfl
theorem a62:aggT? cx 62=some true:=by kernel_rfl
theorem f62_0:(fieldOf cx 62 0).map (fun f=>(f.type,f.offset))=some (3,0):=by kernel_rfl
theorem f62_1:(fieldOf cx 62 1).map (fun f=>(f.type,f.offset))=some (3,1):=by kernel_rfl
theorem f62_2:(fieldOf cx 62 2).map (fun f=>(f.type,f.offset))=some (3,2):=by kernel_rfl
theorem f62_3:(fieldOf cx 62 3).map (fun f=>(f.type,f.offset))=some (3,3):=by kernel_rfl
theorem f62_4:(fieldOf cx 62 4).map (fun f=>(f.type,f.offset))=some (3,4):=by kernel_rfl
theorem f62_5:(fieldOf cx 62 5).map (fun f=>(f.type,f.offset))=some (4,5):=by kernel_rfl
theorem f62_6:(fieldOf cx 62 6).map (fun f=>(f.type,f.offset))=some (59,6):=by kernel_rfl
theorem f62_7:(fieldOf cx 62 7).map (fun f=>(f.type,f.offset))=some (3,7):=by kernel_rfl
theorem f62_8:(fieldOf cx 62 8).map (fun f=>(f.type,f.offset))=some (9,8):=by kernel_rfl
theorem f62_9:(fieldOf cx 62 9).map (fun f=>(f.type,f.offset))=some (60,9):=by kernel_rfl
theorem s257:sizeOf? cx 257=some 6:=by kernel_rfl
theorem a257:aggT? cx 257=some true:=by kernel_rfl
theorem f257_0:(fieldOf cx 257 0).map (fun f=>(f.type,f.offset))=some (25,0):=by kernel_rfl
theorem u150:cx.under 150=some (.slice 4):=by kernel_rfl
theorem s150:sizeOf? cx 150=some 1:=by kernel_rfl
theorem u258:cx.under 258=some (.slice 23):=by kernel_rfl
theorem s258:sizeOf? cx 258=some 1:=by kernel_rfl
theorem s326:sizeOf? cx 326=some 1:=by kernel_rfl
theorem f164_0:(fieldOf cx 164 0).map (fun f=>(f.type,f.offset))=some (25,0):=by kernel_rfl
theorem f164_1:(fieldOf cx 164 1).map (fun f=>(f.type,f.offset))=some (36,6):=by kernel_rfl
theorem u59:cx.under 59=some (.slice 64):=by kernel_rfl
theorem s59:sizeOf? cx 59=some 1:=by kernel_rfl
theorem a59:aggT? cx 59=some false:=by kernel_rfl
theorem u60:cx.under 60=some (.slice 375):=by kernel_rfl
theorem s60:sizeOf? cx 60=some 1:=by kernel_rfl
theorem a60:aggT? cx 60=some false:=by kernel_rfl
theorem s375:sizeOf? cx 375=some 2:=by kernel_rfl
theorem a375:aggT? cx 375=some true:=by kernel_rfl
theorem f375_0:(fieldOf cx 375 0).map (fun f=>(f.type,f.offset))=some (3,0):=by kernel_rfl
theorem f375_1:(fieldOf cx 375 1).map (fun f=>(f.type,f.offset))=some (23,1):=by kernel_rfl
theorem u27:cx.under 27=some (.array 16 5):=by kernel_rfl
theorem s27:sizeOf? cx 27=some 16:=by kernel_rfl
theorem a27:aggT? cx 27=some true:=by kernel_rfl
theorem u30:cx.under 30=some (.slice 93):=by kernel_rfl
theorem s30:sizeOf? cx 30=some 1:=by kernel_rfl
theorem a30:aggT? cx 30=some false:=by kernel_rfl
theorem s32:sizeOf? cx 32=some 21:=by kernel_rfl
theorem a32:aggT? cx 32=some true:=by kernel_rfl
theorem f32_0:(fieldOf cx 32 0).map (fun f=>(f.type,f.offset))=some (29,0):=by kernel_rfl
theorem f32_1:(fieldOf cx 32 1).map (fun f=>(f.type,f.offset))=some (3,18):=by kernel_rfl
theorem f32_2:(fieldOf cx 32 2).map (fun f=>(f.type,f.offset))=some (9,19):=by kernel_rfl
theorem f32_3:(fieldOf cx 32 3).map (fun f=>(f.type,f.offset))=some (30,20):=by kernel_rfl
theorem s93:sizeOf? cx 93=some 2:=by kernel_rfl
theorem a93:aggT? cx 93=some true:=by kernel_rfl
theorem f93_0:(fieldOf cx 93 0).map (fun f=>(f.type,f.offset))=some (3,0):=by kernel_rfl
theorem f93_1:(fieldOf cx 93 1).map (fun f=>(f.type,f.offset))=some (3,1):=by kernel_rfl
theorem f148_0:(fieldOf cx 148 0).map (fun f=>(f.type,f.offset))=some (25,0):=by kernel_rfl
theorem s153:sizeOf? cx 153=some 3:=by kernel_rfl
theorem a153:aggT? cx 153=some true:=by kernel_rfl
theorem f153_0:(fieldOf cx 153 0).map (fun f=>(f.type,f.offset))=some (59,0):=by kernel_rfl
theorem f153_1:(fieldOf cx 153 1).map (fun f=>(f.type,f.offset))=some (3,1):=by kernel_rfl
theorem f153_2:(fieldOf cx 153 2).map (fun f=>(f.type,f.offset))=some (36,2):=by kernel_rfl
theorem s419:sizeOf? cx 419=some 2:=by kernel_rfl
theorem a419:aggT? cx 419=some true:=by kernel_rfl
def CT(f n:Nat) (s:SC) (rs:List ResultVar):Prop:=∀ {o args h P},o f args h=none→Nat.ble args.length n=true→xC cx o none s (endP cx rs P) (argT args 0 .lf) h [] none→Ct cx o (.fn f args) h P
theorem mkCT{f n s rs} {fn:Func} (h1:cx.fn f=some fn) (h2:fn.body.map tr=some s) (h3:fn.ntmps=n) (h4:fn.results.toList=rs) (h5:okS n s=true):CT f n s rs:=fun ho ha=>ct_sc h1 h2 h3 h4 ho ha h5
abbrev nO(op:Op) (d:Nat):SOp:=⟨none,op,some d⟩
abbrev tO(g:Nat) (op:Op) (d:Nat):SOp:=⟨some (some g,true),op,some d⟩
abbrev fO(g:Nat) (op:Op) (d:Nat):SOp:=⟨some (some g,false),op,some d⟩
abbrev cF(f:FuncId) (a:Array Operand) (t:Array TypeId):Op:=.call {callee:=.value (.func f),args:=a,argTypes:=t}
abbrev T(n:Nat):Operand:=.tmp n
abbrev cI(n:Int):Operand:=.const (.int .i64 n)
abbrev cT:Operand:=.const (.bool true)
abbrev cN:Operand:=.const (.bool false)
-- understory/understorylaw08.CursorChecks
def sc3r0:List SOp:=[nO (.box 25 (T 0)) 3,
 nO (.box 32 (T 1)) 4,
 nO (.box 32 (T 2)) 5,
 nO (.assign cN) 6]
def sc3r1:List SOp:=[ldO 25 3 7,
 nO (cF 5 #[T 7] #[25]) 8,
 nO (.unOp .not 4 (T 8)) 9,
 mvO 9 10,
 fO 10 (.load 32 (T 4)) 11,
 fO 10 (.load 32 (T 5)) 12,
 fO 10 (.buildSlice 65 2 #[(0,(T 11)),(1,(T 12))]) 13,
 fO 10 (cF 6 #[T 13] #[65]) 14,
 fO 10 (.unOp .not 4 (T 14)) 15,
 nO (.pick (T 10) cT (T 15)) 16]
def sc3r2:List SOp:=[nO (cF 7 #[] #[]) 17,
 asO 17 6]
def sc3r3:List (SOp×DK):=[(nO (cF 7 #[] #[]) 18,.A [18] []),
 (nO (.move (T 18)) 19,.L 1 1 []),
 (tO 19 (.load 25 (T 3)) 20,.L 1 1 []),
 (tO 19 (.load 32 (T 4)) 21,.L 1 1 []),
 (tO 19 (cF 8 #[T 20,(T 21)] #[25,32]) 22,.A [18,19,20,21,22,23,24] [23,24]),
 (tO 19 (.load 25 (T 3)) 23,.L 1 2 []),
 (tO 19 (.load 32 (T 4)) 24,.L 1 2 []),
 (tO 19 (cF 9 #[T 23,(T 24)] #[25,32]) 25,.A [18,19,20,21,22,23,24,25] []),
 (tO 19 (.binOp .eql 36 (T 22) (T 25) 36) 26,.L 3 3 []),
 (nO (.pick (T 19) (T 26) cN) 27,.L 3 3 []),
 (nO (.move (T 27)) 28,.L 3 3 []),
 (tO 28 (.fieldAddr 32 (T 4) 0) 29,.L 3 3 []),
 (tO 28 (.load 29 (T 29)) 30,.L 3 3 []),
 (tO 28 (cF 11 #[T 30] #[29]) 31,.A [18,19,20,21,22,23,24,25,26,27,28,29,30,31,32,33] [32,33]),
 (tO 28 (.fieldAddr 32 (T 4) 0) 32,.L 3 4 []),
 (tO 28 (.load 29 (T 32)) 33,.L 3 4 []),
 (tO 28 (cF 12 #[T 33] #[29]) 34,.A [18,19,20,21,22,23,24,25,26,27,28,29,30,31,32,33,34] []),
 (tO 28 (cF 10 #[T 31,(T 34)] #[32,32]) 35,.A [18,19,20,21,22,23,24,25,26,27,28,29,30,31,32,33,34,35] []),
 (nO (.pick (T 28) (T 35) cN) 36,.L 6 6 []),
 (nO (.move (T 36)) 37,.L 6 6 []),
 (tO 37 (.fieldAddr 32 (T 4) 0) 38,.L 6 6 []),
 (tO 37 (.load 29 (T 38)) 39,.L 6 6 []),
 (tO 37 (cF 13 #[T 39] #[29]) 40,.A [18,19,20,21,22,23,24,25,26,27,28,29,30,31,32,33,34,35,36,37,38,39,40,41,42] [41,42]),
 (tO 37 (.fieldAddr 32 (T 4) 0) 41,.L 6 7 []),
 (tO 37 (.load 29 (T 41)) 42,.L 6 7 []),
 (tO 37 (cF 14 #[T 42] #[29]) 43,.A [18,19,20,21,22,23,24,25,26,27,28,29,30,31,32,33,34,35,36,37,38,39,40,41,42,43] []),
 (tO 37 (cF 10 #[T 40,(T 43)] #[32,32]) 44,.A [18,19,20,21,22,23,24,25,26,27,28,29,30,31,32,33,34,35,36,37,38,39,40,41,42,43,44] []),
 (nO (.pick (T 37) (T 44) cN) 45,.L 9 9 []),
 (nO (.move (T 45)) 46,.L 9 9 []),
 (tO 46 (.load 32 (T 4)) 47,.L 9 9 []),
 (tO 46 (.load 32 (T 5)) 48,.L 9 9 []),
 (tO 46 (cF 15 #[T 47,(T 48)] #[32,32]) 49,.A [18,19,20,21,22,23,24,25,26,27,28,29,30,31,32,33,34,35,36,37,38,39,40,41,42,43,44,45,46,47,48,49,50,51] [50,51]),
 (tO 46 (.load 32 (T 4)) 50,.L 9 10 []),
 (tO 46 (.load 32 (T 5)) 51,.L 9 10 []),
 (tO 46 (cF 16 #[T 50,(T 51)] #[32,32]) 52,.A [18,19,20,21,22,23,24,25,26,27,28,29,30,31,32,33,34,35,36,37,38,39,40,41,42,43,44,45,46,47,48,49,50,51,52] []),
 (tO 46 (.binOp .eql 3 (T 49) (T 52) 3) 53,.L 11 11 []),
 (nO (.pick (T 46) (T 53) cN) 54,.L 11 11 []),
 (nO (.assign (T 54)) 6,.L 11 11 [])]
def sc3d3:SC:=.draw sc3r3
theorem sc3d3_x{o rd Q t h d r}:xC cx o rd sc3d3 Q t h d r=xDraw cx o rd Q sc3r3 0 [h] [] [] t h d r:=xC_draw (by kernel_rfl)
def sc3:SC:=(.seq (.reg sc3r0) (.seq (.seq (.reg sc3r1) (.cond (T 16) (.seq (.reg sc3r2) .ret) .skip)) (.seq sc3d3 .ret)))
theorem ext3:cx.ext 3=none:=by kernel_rfl
theorem ct3:CT 3 55 sc3 [.tmp 6]:=mkCT (fn:=Tryz.f3) (by kernel_rfl) (by kernel_rfl) rfl rfl (by kernel_rfl)
-- understory/understorylaw08.small
def sc5r0:List SOp:=[nO (.box 25 (T 0)) 1,
 nO (.assign cN) 2]
def sc5r1:List SOp:=[faO 25 1 0 6,
 ldO 22 6 7,
 nO (.call {callee:=.builtin .len,args:=#[T 7],argTypes:=#[22]}) 8,
 nO (.binOp .gtr 3 (T 8) (cI 300) 3) 9,
 mvO 9 10,
 fO 10 (.fieldAddr 25 (T 1) 1) 11,
 fO 10 (.load 23 (T 11)) 12,
 fO 10 (.call {callee:=.builtin .len,args:=#[T 12],argTypes:=#[23]}) 13,
 fO 10 (.binOp .gtr 3 (T 13) (cI 400) 3) 14,
 nO (.pick (T 10) cT (T 14)) 15,
 mvO 15 16,
 fO 16 (.fieldAddr 25 (T 1) 2) 17,
 fO 16 (.load 23 (T 17)) 18,
 fO 16 (.call {callee:=.builtin .len,args:=#[T 18],argTypes:=#[23]}) 19,
 fO 16 (.binOp .gtr 3 (T 19) (cI 400) 3) 20,
 nO (.pick (T 16) cT (T 20)) 21,
 mvO 21 22,
 fO 22 (.fieldAddr 25 (T 1) 3) 23,
 fO 22 (.load 23 (T 23)) 24,
 fO 22 (.call {callee:=.builtin .len,args:=#[T 24],argTypes:=#[23]}) 25,
 fO 22 (.binOp .gtr 3 (T 25) (cI 400) 3) 26,
 nO (.pick (T 22) cT (T 26)) 27]
def sc5r2:List SOp:=[nO (.assign cN) 2]
def sc5r3:List SOp:=[nO (.assign (cI 0)) 3]
def sc5r4:List SOp:=[mvO 3 28,
 faO 25 1 0 29,
 ldO 22 29 30,
 nO (.call {callee:=.builtin .len,args:=#[T 30],argTypes:=#[22]}) 31,
 nO (.binOp .lss 3 (T 28) (T 31) 3) 32]
def sc5r5:List SOp:=[faO 25 1 0 35,
 ldO 22 35 36,
 mvO 3 37,
 nO (.indexAddr 22 (T 36) (T 37)) 38,
 ldO 62 38 39,
 nO (.alloc 62) 4,
 ⟨none,.store 62 (T 4) (T 39),none⟩]
def sc5r6:List SOp:=[faO 62 4 6 40,
 ldO 59 40 41,
 nO (.call {callee:=.builtin .len,args:=#[T 41],argTypes:=#[59]}) 42,
 nO (.binOp .gtr 3 (T 42) (cI 60) 3) 43,
 mvO 43 44,
 fO 44 (.fieldAddr 62 (T 4) 8) 45,
 fO 44 (.load 9 (T 45)) 46,
 fO 44 (.call {callee:=.builtin .len,args:=#[T 46],argTypes:=#[9]}) 47,
 fO 44 (.binOp .gtr 3 (T 47) (cI 600) 3) 48,
 nO (.pick (T 44) cT (T 48)) 49,
 mvO 49 50,
 fO 50 (.fieldAddr 62 (T 4) 9) 51,
 fO 50 (.load 60 (T 51)) 52,
 fO 50 (.call {callee:=.builtin .len,args:=#[T 52],argTypes:=#[60]}) 53,
 fO 50 (.binOp .gtr 3 (T 53) (cI 20) 3) 54,
 nO (.pick (T 50) cT (T 54)) 55]
def sc5r7:List SOp:=[nO (.assign cN) 2]
def sc5r8:List SOp:=[nO (.assign (cI 0)) 5]
def sc5r9:List SOp:=[mvO 5 56,
 faO 62 4 6 57,
 ldO 59 57 58,
 nO (.call {callee:=.builtin .len,args:=#[T 58],argTypes:=#[59]}) 59,
 nO (.binOp .lss 3 (T 56) (T 59) 3) 60]
def sc5r10:List SOp:=[faO 62 4 6 63,
 ldO 59 63 64,
 mvO 5 65,
 nO (.indexAddr 59 (T 64) (T 65)) 66,
 faO 64 66 0 67,
 ldO 9 67 68,
 nO (.call {callee:=.builtin .len,args:=#[T 68],argTypes:=#[9]}) 69,
 nO (.binOp .gtr 3 (T 69) (cI 100) 3) 70,
 mvO 70 71,
 fO 71 (.fieldAddr 62 (T 4) 6) 72,
 fO 71 (.load 59 (T 72)) 73,
 fO 71 (.move (T 5)) 74,
 fO 71 (.indexAddr 59 (T 73) (T 74)) 75,
 fO 71 (.fieldAddr 64 (T 75) 1) 76,
 fO 71 (.load 9 (T 76)) 77,
 fO 71 (.call {callee:=.builtin .len,args:=#[T 77],argTypes:=#[9]}) 78,
 fO 71 (.binOp .gtr 3 (T 78) (cI 200) 3) 79,
 nO (.pick (T 71) cT (T 79)) 80]
def sc5r11:List SOp:=[nO (.assign cN) 2]
def sc5r12:List SOp:=[mvO 5 61,
 nO (.binOp .add 3 (T 61) (cI 1) 3) 62,
 asO 62 5]
def sc5l13:SC:=(.seq (.seq (.reg sc5r9) (.cond (T 60) .skip (.exit 2))) (.seq (.block 3 (.seq (.reg sc5r10) (.cond (T 80) (.seq (.reg sc5r11) .ret) .skip))) (.reg sc5r12)))
def sc5r14:List SOp:=[mvO 3 33,
 nO (.binOp .add 3 (T 33) (cI 1) 3) 34,
 asO 34 3]
def sc5l15:SC:=(.seq (.seq (.reg sc5r4) (.cond (T 32) .skip (.exit 0))) (.seq (.block 1 (.seq (.reg sc5r5) (.seq (.seq (.reg sc5r6) (.cond (T 55) (.seq (.reg sc5r7) .ret) .skip)) (.seq (.reg sc5r8) (.block 2 (.loop sc5l13)))))) (.reg sc5r14)))
def sc5r16:List SOp:=[nO (.assign cT) 2]
def sc5:SC:=(.seq (.reg sc5r0) (.seq (.seq (.reg sc5r1) (.cond (T 27) (.seq (.reg sc5r2) .ret) .skip)) (.seq (.seq (.reg sc5r3) (.block 0 (.loop sc5l15))) (.seq (.reg sc5r16) .ret))))
theorem ext5:cx.ext 5=none:=by kernel_rfl
theorem ct5:CT 5 81 sc5 [.tmp 2]:=mkCT (fn:=Tryz.f5) (by kernel_rfl) (by kernel_rfl) rfl rfl (by kernel_rfl)
-- understory/understorylaw08.thin
def sc6r0:List SOp:=[nO (.assign cN) 2]
def sc6r1:List SOp:=[nO (.assign (cI 0)) 3]
def sc6r2:List SOp:=[mvO 3 4,
 mvO 0 5,
 nO (.call {callee:=.builtin .len,args:=#[T 5],argTypes:=#[65]}) 6,
 nO (.binOp .lss 3 (T 4) (T 6) 3) 7]
def sc6r3:List SOp:=[mvO 0 10,
 mvO 3 11,
 nO (.indexAddr 65 (T 10) (T 11)) 12,
 faO 32 12 3 13,
 ldO 30 13 14,
 nO (.call {callee:=.builtin .len,args:=#[T 14],argTypes:=#[30]}) 15,
 nO (.binOp .gtr 3 (T 15) (cI 60) 3) 16,
 mvO 16 17,
 fO 17 (.move (T 0)) 18,
 fO 17 (.move (T 3)) 19,
 fO 17 (.indexAddr 65 (T 18) (T 19)) 20,
 fO 17 (.fieldAddr 32 (T 20) 2) 21,
 fO 17 (.load 9 (T 21)) 22,
 fO 17 (.call {callee:=.builtin .len,args:=#[T 22],argTypes:=#[9]}) 23,
 fO 17 (.binOp .gtr 3 (T 23) (cI 100) 3) 24,
 nO (.pick (T 17) cT (T 24)) 25]
def sc6r4:List SOp:=[nO (.assign cN) 2]
def sc6r5:List SOp:=[mvO 3 8,
 nO (.binOp .add 3 (T 8) (cI 1) 3) 9,
 asO 9 3]
def sc6l6:SC:=(.seq (.seq (.reg sc6r2) (.cond (T 7) .skip (.exit 0))) (.seq (.block 1 (.seq (.reg sc6r3) (.cond (T 25) (.seq (.reg sc6r4) .ret) .skip))) (.reg sc6r5)))
def sc6r7:List SOp:=[nO (.assign cT) 2]
def sc6:SC:=(.seq (.reg sc6r0) (.seq (.seq (.reg sc6r1) (.block 0 (.loop sc6l6))) (.seq (.reg sc6r7) .ret)))
theorem ext6:cx.ext 6=none:=by kernel_rfl
theorem ct6:CT 6 26 sc6 [.tmp 2]:=mkCT (fn:=Tryz.f6) (by kernel_rfl) (by kernel_rfl) rfl rfl (by kernel_rfl)
-- understory/cursor.Check
def sc8r0:List SOp:=[nO (.box 25 (T 0)) 2,
 nO (.box 32 (T 1)) 3,
 nO (.alloc 36) 4]
def sc8r1:List SOp:=[⟨none,.defer {callee:=.value (.func 37),args:=#[(T 4),(.func 38)],argTypes:=#[88,1]},none⟩]
def sc8r2:List SOp:=[ldO 25 2 5,
 ldO 32 3 6,
 nO (cF 39 #[T 5,(T 6)] #[25,32]) 7]
def sc8r3:List SOp:=[⟨none,.store 36 (T 4) (cI 0),none⟩]
def sc8:SC:=(.seq (.reg sc8r0) (.seq (.reg sc8r1) (.seq (.reg sc8r2) (.seq (.reg sc8r3) .ret))))
theorem sc8_ok:Tryz.f8.body.map tr=some sc8:=by kernel_rfl
theorem fn8:cx.fn 8=some Tryz.f8:=by kernel_rfl
theorem ext8:cx.ext 8=none:=by kernel_rfl
theorem sc8_dst:okS 8 sc8=true:=by kernel_rfl
def sc9r0:List SOp:=[nO (.box 25 (T 0)) 2,
 nO (.box 32 (T 1)) 3,
 nO (.assign (cI 0)) 4]
def sc9r1:List SOp:=[ldO 25 2 5,
 nO (cF 40 #[T 5] #[25]) 6,
 nO (.unOp .not 4 (T 6)) 7]
def sc9r2:List SOp:=[nO (.assign (cI 2)) 4]
def sc9r3:List SOp:=[ldO 25 2 8,
 ldO 32 3 9,
 nO (cF 41 #[T 8,(T 9)] #[25,32]) 10,
 nO (.unOp .not 4 (T 10)) 11]
def sc9r4:List SOp:=[nO (.assign (cI 6)) 4]
def sc9r5:List SOp:=[nO (.assign (cI 0)) 4]
def sc9:SC:=(.seq (.reg sc9r0) (.seq (.seq (.reg sc9r1) (.cond (T 7) (.seq (.reg sc9r2) .ret) .skip)) (.seq (.seq (.reg sc9r3) (.cond (T 11) (.seq (.reg sc9r4) .ret) .skip)) (.seq (.reg sc9r5) .ret))))
theorem ext9:cx.ext 9=none:=by kernel_rfl
theorem ct9:CT 9 12 sc9 [.tmp 4]:=mkCT (fn:=Tryz.f9) (by kernel_rfl) (by kernel_rfl) rfl rfl (by kernel_rfl)
-- understory/understoryref08.Same
def sc10r0:List SOp:=[nO (.box 32 (T 0)) 2,
 nO (.box 32 (T 1)) 3,
 nO (.assign cN) 4]
def sc10r1:List SOp:=[faO 32 2 0 6,
 ldO 29 6 7,
 faO 32 3 0 8,
 ldO 29 8 9,
 nO (.binOp .neq 29 (T 7) (T 9) 29) 10,
 mvO 10 11,
 fO 11 (.fieldAddr 32 (T 2) 1) 12,
 fO 11 (.load 3 (T 12)) 13,
 fO 11 (.fieldAddr 32 (T 3) 1) 14,
 fO 11 (.load 3 (T 14)) 15,
 fO 11 (.binOp .neq 3 (T 13) (T 15) 3) 16,
 nO (.pick (T 11) cT (T 16)) 17,
 mvO 17 18,
 fO 18 (.fieldAddr 32 (T 2) 2) 19,
 fO 18 (.load 9 (T 19)) 20,
 fO 18 (.fieldAddr 32 (T 3) 2) 21,
 fO 18 (.load 9 (T 21)) 22,
 fO 18 (.binOp .neq 9 (T 20) (T 22) 9) 23,
 nO (.pick (T 18) cT (T 23)) 24,
 mvO 24 25,
 fO 25 (.fieldAddr 32 (T 2) 3) 26,
 fO 25 (.load 30 (T 26)) 27,
 fO 25 (.call {callee:=.builtin .len,args:=#[T 27],argTypes:=#[30]}) 28,
 fO 25 (.fieldAddr 32 (T 3) 3) 29,
 fO 25 (.load 30 (T 29)) 30,
 fO 25 (.call {callee:=.builtin .len,args:=#[T 30],argTypes:=#[30]}) 31,
 fO 25 (.binOp .neq 3 (T 28) (T 31) 3) 32,
 nO (.pick (T 25) cT (T 32)) 33]
def sc10r2:List SOp:=[nO (.assign cN) 4]
def sc10r3:List SOp:=[nO (.assign (cI 0)) 5]
def sc10r4:List SOp:=[mvO 5 34,
 faO 32 2 3 35,
 ldO 30 35 36,
 nO (.call {callee:=.builtin .len,args:=#[T 36],argTypes:=#[30]}) 37,
 nO (.binOp .lss 3 (T 34) (T 37) 3) 38]
def sc10r5:List (SOp×DK):=[(nO (.fieldAddr 32 (T 2) 3) 41,.L 0 0 []),
 (nO (.load 30 (T 41)) 42,.L 0 0 []),
 (nO (.move (T 5)) 43,.L 0 0 []),
 (nO (.indexAddr 30 (T 42) (T 43)) 44,.L 0 0 []),
 (nO (.load 93 (T 44)) 45,.L 0 0 []),
 (nO (.fieldAddr 32 (T 3) 3) 46,.L 0 0 []),
 (nO (.load 30 (T 46)) 47,.L 0 0 []),
 (nO (.move (T 5)) 48,.L 0 0 []),
 (nO (.indexAddr 30 (T 47) (T 48)) 49,.L 0 0 []),
 (nO (.load 93 (T 49)) 50,.L 0 0 []),
 (nO (.binOp .neq 93 (T 45) (T 50) 93) 51,.L 0 0 [])]
def sc10d5:SC:=.draw sc10r5
theorem sc10d5_x{o rd Q t h d r}:xC cx o rd sc10d5 Q t h d r=xDraw cx o rd Q sc10r5 0 [h] [] [] t h d r:=xC_draw (by kernel_rfl)
def sc10r6:List SOp:=[nO (.assign cN) 4]
def sc10r7:List SOp:=[mvO 5 39,
 nO (.binOp .add 3 (T 39) (cI 1) 3) 40,
 asO 40 5]
def sc10l8:SC:=(.seq (.seq (.reg sc10r4) (.cond (T 38) .skip (.exit 0))) (.seq (.block 1 (.seq sc10d5 (.cond (T 51) (.seq (.reg sc10r6) .ret) .skip))) (.reg sc10r7)))
def sc10r9:List SOp:=[nO (.assign cT) 4]
def sc10:SC:=(.seq (.reg sc10r0) (.seq (.seq (.reg sc10r1) (.cond (T 33) (.seq (.reg sc10r2) .ret) .skip)) (.seq (.seq (.reg sc10r3) (.block 0 (.loop sc10l8))) (.seq (.reg sc10r9) .ret))))
theorem ext10:cx.ext 10=none:=by kernel_rfl
theorem ct10:CT 10 52 sc10 [.tmp 4]:=mkCT (fn:=Tryz.f10) (by kernel_rfl) (by kernel_rfl) rfl rfl (by kernel_rfl)
-- understory/cursor.Start
def sc11r0:List SOp:=[nO (.box 29 (T 0)) 1,
 nO (.alloc 32) 2]
def sc11r1:List SOp:=[ldO 29 1 3,
 nO (.build 32 #[(0,(T 3)),(1,(cI 0))]) 4,
 ⟨none,.store 32 (T 2) (T 4),none⟩]
def sc11:SC:=(.seq (.reg sc11r0) (.seq (.reg sc11r1) .ret))
theorem ext11:cx.ext 11=none:=by kernel_rfl
theorem ct11:CT 11 5 sc11 [.cell 2 32]:=mkCT (fn:=Tryz.f11) (by kernel_rfl) (by kernel_rfl) rfl rfl (by kernel_rfl)
-- understory/understoryref08.Start
def sc12r0:List SOp:=[nO (.box 29 (T 0)) 1,
 nO (.alloc 32) 2]
def sc12r1:List SOp:=[ldO 29 1 3,
 nO (.build 32 #[(0,(T 3)),(1,(cI 0))]) 4,
 ⟨none,.store 32 (T 2) (T 4),none⟩]
def sc12:SC:=(.seq (.reg sc12r0) (.seq (.reg sc12r1) .ret))
theorem ext12:cx.ext 12=none:=by kernel_rfl
theorem ct12:CT 12 5 sc12 [.cell 2 32]:=mkCT (fn:=Tryz.f12) (by kernel_rfl) (by kernel_rfl) rfl rfl (by kernel_rfl)
-- understory/cursor.End
def sc13r0:List SOp:=[nO (.box 29 (T 0)) 1,
 nO (.alloc 32) 2]
def sc13r1:List SOp:=[ldO 29 1 3,
 nO (.build 32 #[(0,(T 3)),(1,(cI 2))]) 4,
 ⟨none,.store 32 (T 2) (T 4),none⟩]
def sc13:SC:=(.seq (.reg sc13r0) (.seq (.reg sc13r1) .ret))
theorem ext13:cx.ext 13=none:=by kernel_rfl
theorem ct13:CT 13 5 sc13 [.cell 2 32]:=mkCT (fn:=Tryz.f13) (by kernel_rfl) (by kernel_rfl) rfl rfl (by kernel_rfl)
-- understory/understoryref08.End
def sc14r0:List SOp:=[nO (.box 29 (T 0)) 1,
 nO (.alloc 32) 2]
def sc14r1:List SOp:=[ldO 29 1 3,
 nO (.build 32 #[(0,(T 3)),(1,(cI 2))]) 4,
 ⟨none,.store 32 (T 2) (T 4),none⟩]
def sc14:SC:=(.seq (.reg sc14r0) (.seq (.reg sc14r1) .ret))
theorem ext14:cx.ext 14=none:=by kernel_rfl
theorem ct14:CT 14 5 sc14 [.cell 2 32]:=mkCT (fn:=Tryz.f14) (by kernel_rfl) (by kernel_rfl) rfl rfl (by kernel_rfl)
-- understory/cursor.Visits
def sc15r0:List SOp:=[nO (.box 32 (T 0)) 2,
 nO (.box 32 (T 1)) 3,
 nO (.assign (cI 0)) 4]
def sc15r1:List SOp:=[nO (.makeMap 94 none) 11,
 asO 11 5]
def sc15r2:List SOp:=[faO 32 2 3 12,
 ldO 30 12 13,
 nO (.call {callee:=.builtin .len,args:=#[T 13],argTypes:=#[30]}) 14,
 nO (.move (cI 0)) 15]
def sc15r3:List SOp:=[nO (.binOp .lss 3 (T 15) (T 14) 3) 16]
def sc15r4:List SOp:=[nO (.indexAddr 30 (T 13) (T 15)) 17,
 ldO 93 17 18,
 nO (.alloc 93) 7,
 ⟨none,.store 93 (T 7) (T 18),none⟩]
def sc15r5:List SOp:=[mvO 5 19,
 faO 93 7 0 20,
 ldO 3 20 21,
 ⟨none,.mapUpdate 94 (T 19) (T 21) cT,none⟩]
def sc15r6:List SOp:=[nO (.binOp .add 3 (T 15) (cI 1) 3) 22,
 mvO 22 15]
def sc15l7:SC:=(.seq (.reg sc15r3) (.seq (.cond (T 16) .skip (.exit 0)) (.seq (.block 1 (.seq (.reg sc15r4) (.reg sc15r5))) (.reg sc15r6))))
def sc15r8:List SOp:=[nO (.assign (cI 0)) 8]
def sc15r9:List SOp:=[faO 32 3 3 23,
 ldO 30 23 24,
 nO (.call {callee:=.builtin .len,args:=#[T 24],argTypes:=#[30]}) 25,
 nO (.move (cI 0)) 26]
def sc15r10:List SOp:=[nO (.binOp .lss 3 (T 26) (T 25) 3) 27]
def sc15r11:List SOp:=[nO (.indexAddr 30 (T 24) (T 26)) 28,
 ldO 93 28 29,
 nO (.alloc 93) 10,
 ⟨none,.store 93 (T 10) (T 29),none⟩]
def sc15r12:List SOp:=[mvO 5 30,
 faO 93 10 0 31,
 ldO 3 31 32,
 nO (.lookup 94 (T 30) (T 32) false) 33,
 nO (.unOp .not 4 (T 33)) 34]
def sc15r13:List SOp:=[mvO 8 35,
 nO (.binOp .add 3 (T 35) (cI 1) 3) 36,
 asO 36 8]
def sc15r14:List SOp:=[mvO 5 37,
 faO 93 10 0 38,
 ldO 3 38 39,
 ⟨none,.mapUpdate 94 (T 37) (T 39) cT,none⟩]
def sc15r15:List SOp:=[nO (.binOp .add 3 (T 26) (cI 1) 3) 40,
 mvO 40 26]
def sc15l16:SC:=(.seq (.reg sc15r10) (.seq (.cond (T 27) .skip (.exit 2)) (.seq (.block 3 (.seq (.reg sc15r11) (.seq (.seq (.reg sc15r12) (.cond (T 34) (.reg sc15r13) .skip)) (.reg sc15r14)))) (.reg sc15r15))))
def sc15r17:List SOp:=[mvO 8 41,
 asO 41 4]
def sc15:SC:=(.seq (.reg sc15r0) (.seq (.reg sc15r1) (.seq (.seq (.reg sc15r2) (.block 0 (.loop sc15l7))) (.seq (.reg sc15r8) (.seq (.seq (.reg sc15r9) (.block 2 (.loop sc15l16))) (.seq (.reg sc15r17) .ret))))))
theorem ext15:cx.ext 15=none:=by kernel_rfl
theorem ct15:CT 15 42 sc15 [.tmp 4]:=mkCT (fn:=Tryz.f15) (by kernel_rfl) (by kernel_rfl) rfl rfl (by kernel_rfl)
-- understory/understoryref08.Visits
def sc16r0:List SOp:=[nO (.box 32 (T 0)) 2,
 nO (.box 32 (T 1)) 3,
 nO (.assign (cI 0)) 4]
def sc16r1:List SOp:=[nO (.assign (.const (.slice none 0 0))) 5]
def sc16r2:List SOp:=[nO (.assign (cI 0)) 6]
def sc16r3:List SOp:=[mvO 6 11,
 faO 32 2 3 12,
 ldO 30 12 13,
 nO (.call {callee:=.builtin .len,args:=#[T 13],argTypes:=#[30]}) 14,
 nO (.binOp .lss 3 (T 11) (T 14) 3) 15]
def sc16r4:List SOp:=[mvO 5 18,
 faO 32 2 3 19,
 ldO 30 19 20,
 mvO 6 21,
 nO (.indexAddr 30 (T 20) (T 21)) 22,
 faO 93 22 0 23,
 ldO 3 23 24,
 nO (.buildSlice 23 1 #[(0,(T 24))]) 25,
 nO (.call {callee:=.builtin .append,args:=#[T 18,(T 25)],argTypes:=#[23,23]}) 26,
 asO 26 5]
def sc16r5:List SOp:=[mvO 6 16,
 nO (.binOp .add 3 (T 16) (cI 1) 3) 17,
 asO 17 6]
def sc16l6:SC:=(.seq (.seq (.reg sc16r3) (.cond (T 15) .skip (.exit 0))) (.seq (.block 1 (.reg sc16r4)) (.reg sc16r5)))
def sc16r7:List SOp:=[nO (.assign (cI 0)) 7]
def sc16r8:List SOp:=[nO (.assign (cI 0)) 8]
def sc16r9:List SOp:=[mvO 8 27,
 faO 32 3 3 28,
 ldO 30 28 29,
 nO (.call {callee:=.builtin .len,args:=#[T 29],argTypes:=#[30]}) 30,
 nO (.binOp .lss 3 (T 27) (T 30) 3) 31]
def sc16r10:List SOp:=[nO (.assign cN) 9]
def sc16r11:List SOp:=[nO (.assign (cI 0)) 10]
def sc16r12:List SOp:=[mvO 10 34,
 mvO 5 35,
 nO (.call {callee:=.builtin .len,args:=#[T 35],argTypes:=#[23]}) 36,
 nO (.binOp .lss 3 (T 34) (T 36) 3) 37]
def sc16r13:List (SOp×DK):=[(nO (.move (T 9)) 40,.L 0 0 []),
 (nO (.move (T 40)) 41,.L 0 0 []),
 (fO 41 (.move (T 5)) 42,.L 0 0 []),
 (fO 41 (.move (T 10)) 43,.L 0 0 []),
 (fO 41 (.indexAddr 23 (T 42) (T 43)) 44,.L 0 0 []),
 (fO 41 (.load 3 (T 44)) 45,.L 0 0 []),
 (fO 41 (.fieldAddr 32 (T 3) 3) 46,.L 0 0 []),
 (fO 41 (.load 30 (T 46)) 47,.L 0 0 []),
 (fO 41 (.move (T 8)) 48,.L 0 0 []),
 (fO 41 (.indexAddr 30 (T 47) (T 48)) 49,.L 0 0 []),
 (fO 41 (.fieldAddr 93 (T 49) 0) 50,.L 0 0 []),
 (fO 41 (.load 3 (T 50)) 51,.L 0 0 []),
 (fO 41 (.binOp .eql 3 (T 45) (T 51) 3) 52,.L 0 0 []),
 (nO (.pick (T 41) cT (T 52)) 53,.L 0 0 []),
 (nO (.assign (T 53)) 9,.L 0 0 [])]
def sc16d13:SC:=.draw sc16r13
theorem sc16d13_x{o rd Q t h d r}:xC cx o rd sc16d13 Q t h d r=xDraw cx o rd Q sc16r13 0 [h] [] [] t h d r:=xC_draw (by kernel_rfl)
def sc16r14:List SOp:=[mvO 10 38,
 nO (.binOp .add 3 (T 38) (cI 1) 3) 39,
 asO 39 10]
def sc16l15:SC:=(.seq (.seq (.reg sc16r12) (.cond (T 37) .skip (.exit 4))) (.seq (.block 5 sc16d13) (.reg sc16r14)))
def sc16r16:List SOp:=[mvO 9 54,
 nO (.unOp .not 4 (T 54)) 55]
def sc16r17:List SOp:=[mvO 7 56,
 nO (.binOp .add 3 (T 56) (cI 1) 3) 57,
 asO 57 7]
def sc16r18:List SOp:=[mvO 5 58,
 faO 32 3 3 59,
 ldO 30 59 60,
 mvO 8 61,
 nO (.indexAddr 30 (T 60) (T 61)) 62,
 faO 93 62 0 63,
 ldO 3 63 64,
 nO (.buildSlice 23 1 #[(0,(T 64))]) 65,
 nO (.call {callee:=.builtin .append,args:=#[T 58,(T 65)],argTypes:=#[23,23]}) 66,
 asO 66 5]
def sc16r19:List SOp:=[mvO 8 32,
 nO (.binOp .add 3 (T 32) (cI 1) 3) 33,
 asO 33 8]
def sc16l20:SC:=(.seq (.seq (.reg sc16r9) (.cond (T 31) .skip (.exit 2))) (.seq (.block 3 (.seq (.reg sc16r10) (.seq (.seq (.reg sc16r11) (.block 4 (.loop sc16l15))) (.seq (.reg sc16r16) (.cond (T 55) (.seq (.reg sc16r17) (.reg sc16r18)) .skip))))) (.reg sc16r19)))
def sc16r21:List SOp:=[mvO 7 67,
 asO 67 4]
def sc16:SC:=(.seq (.reg sc16r0) (.seq (.reg sc16r1) (.seq (.seq (.reg sc16r2) (.block 0 (.loop sc16l6))) (.seq (.reg sc16r7) (.seq (.seq (.reg sc16r8) (.block 2 (.loop sc16l20))) (.seq (.reg sc16r21) .ret))))))
theorem ext16:cx.ext 16=none:=by kernel_rfl
theorem ct16:CT 16 68 sc16 [.tmp 4]:=mkCT (fn:=Tryz.f16) (by kernel_rfl) (by kernel_rfl) rfl rfl (by kernel_rfl)
-- understory/cursor.caught
def sc37r0:List SOp:=[nO (.call {callee:=.builtin .recover,args:=#[],argTypes:=#[]}) 7,
 asO 7 4]
def sc37r1:List SOp:=[mvO 4 8,
 nO (.binOp .neq 20 (T 8) (.const .nilIface) 20) 9]
def sc37r2:List SOp:=[mvO 4 11,
 nO (.typeAssert (T 11) 20 142 true) 12,
 mvO 12 10,
 nO (.extract (T 10) 0) 13,
 nO (.extract (T 10) 1) 14,
 nO (.alloc 142) 5,
 ⟨none,.store 142 (T 5) (T 13),none⟩,
 asO 14 6]
def sc37r3:List SOp:=[mvO 6 15,
 nO (.unOp .not 4 (T 15)) 16]
def sc37r4:List SOp:=[mvO 4 17,
 ⟨none,.panic (T 17),none⟩]
def sc37r5:List SOp:=[mvO 1 18,
 nO (.call {callee:=.value (T 18),args:=#[],argTypes:=#[]}) 19]
def sc37r6:List SOp:=[mvO 0 20,
 faO 142 5 0 21,
 ldO 36 21 22,
 ncO 20 23,
 ⟨none,.store 36 (T 23) (T 22),none⟩]
def sc37:SC:=(.seq (.reg sc37r0) (.seq (.reg sc37r1) (.cond (T 9) (.seq (.reg sc37r2) (.seq (.seq (.reg sc37r3) (.cond (T 16) (.reg sc37r4) .skip)) (.seq (.reg sc37r5) (.reg sc37r6)))) .skip)))
theorem sc37_ok:Tryz.f37.body.map tr=some sc37:=by kernel_rfl
theorem fn37:cx.fn 37=some Tryz.f37:=by kernel_rfl
theorem sc37_dst:okS 24 sc37=true:=by kernel_rfl
def sc38:SC:=.skip
theorem ext38:cx.ext 38=none:=by kernel_rfl
theorem ct38:CT 38 0 sc38 []:=mkCT (fn:=Tryz.f38) (by kernel_rfl) (by kernel_rfl) rfl rfl (by kernel_rfl)
-- understory/cursor.use
def sc39r0:List SOp:=[nO (.box 25 (T 0)) 2,
 nO (.box 32 (T 1)) 3,
 nO (.assign (.const (.pointer none))) 4]
def sc39r1:List SOp:=[ldO 25 2 6,
 nO (cF 83 #[T 6] #[25]) 7,
 nO (cF 69 #[T 7] #[36]) 8]
def sc39r2:List SOp:=[ldO 25 2 9,
 nO (.build 148 #[(0,(T 9))]) 10,
 nO (.box 148 (T 10)) 11,
 asO 11 5]
def sc39r3:List SOp:=[mvO 5 12,
 ldO 32 3 13,
 nO (cF 82 #[T 12,(T 13)] #[89,32]) 14]
def sc39r4:List SOp:=[mvO 5 15,
 asO 15 4]
def sc39:SC:=(.seq (.reg sc39r0) (.seq (.reg sc39r1) (.seq (.reg sc39r2) (.seq (.reg sc39r3) (.seq (.reg sc39r4) .ret)))))
theorem ext39:cx.ext 39=none:=by kernel_rfl
theorem ct39:CT 39 16 sc39 [.tmp 4]:=mkCT (fn:=Tryz.f39) (by kernel_rfl) (by kernel_rfl) rfl rfl (by kernel_rfl)
-- understory/understoryref07.IsSound
def sc40r0:List SOp:=[nO (.box 25 (T 0)) 1,
 nO (.assign cN) 2]
def sc40r1:List SOp:=[faO 25 1 0 7,
 ldO 22 7 8,
 nO (.call {callee:=.builtin .len,args:=#[T 8],argTypes:=#[22]}) 9,
 asO 9 3]
def sc40r2:List SOp:=[mvO 3 10,
 nO (.binOp .lss 3 (T 10) (cI 2) 3) 11,
 mvO 11 12,
 fO 12 (.move (T 3)) 13,
 fO 12 (.binOp .gtr 3 (T 13) (cI 4096) 3) 14,
 nO (.pick (T 12) cT (T 14)) 15,
 mvO 15 16,
 fO 16 (.fieldAddr 25 (T 1) 4) 17,
 fO 16 (.load 3 (T 17)) 18,
 fO 16 (.binOp .lss 3 (T 18) (cI 0) 3) 19,
 nO (.pick (T 16) cT (T 19)) 20,
 mvO 20 21,
 fO 21 (.fieldAddr 25 (T 1) 4) 22,
 fO 21 (.load 3 (T 22)) 23,
 fO 21 (.binOp .gtr 3 (T 23) (cI 1099511627776) 3) 24,
 nO (.pick (T 21) cT (T 24)) 25,
 mvO 25 26,
 fO 26 (.fieldAddr 25 (T 1) 5) 27,
 fO 26 (.load 3 (T 27)) 28,
 fO 26 (.binOp .lss 3 (T 28) (cI 0) 3) 29,
 nO (.pick (T 26) cT (T 29)) 30,
 mvO 30 31,
 fO 31 (.fieldAddr 25 (T 1) 5) 32,
 fO 31 (.load 3 (T 32)) 33,
 fO 31 (.binOp .gtr 3 (T 33) (cI 255) 3) 34,
 nO (.pick (T 31) cT (T 34)) 35]
def sc40r3:List SOp:=[nO (.assign cN) 2]
def sc40r4:List SOp:=[faO 25 1 1 36,
 ldO 23 36 37,
 mvO 3 38,
 nO (cF 84 #[T 37,(T 38)] #[23,3]) 39,
 nO (.unOp .not 4 (T 39)) 40,
 mvO 40 41,
 fO 41 (.fieldAddr 25 (T 1) 2) 42,
 fO 41 (.load 23 (T 42)) 43,
 fO 41 (.move (T 3)) 44,
 fO 41 (cF 84 #[T 43,(T 44)] #[23,3]) 45,
 fO 41 (.unOp .not 4 (T 45)) 46,
 nO (.pick (T 41) cT (T 46)) 47,
 mvO 47 48,
 fO 48 (.fieldAddr 25 (T 1) 3) 49,
 fO 48 (.load 23 (T 49)) 50,
 fO 48 (.move (T 3)) 51,
 fO 48 (cF 84 #[T 50,(T 51)] #[23,3]) 52,
 fO 48 (.unOp .not 4 (T 52)) 53,
 nO (.pick (T 48) cT (T 53)) 54]
def sc40r5:List SOp:=[nO (.assign cN) 2]
def sc40r6:List SOp:=[mvO 3 55,
 nO (.makeSlice 150 (T 55) (T 55)) 56,
 asO 56 4]
def sc40r7:List (SOp×DK):=[(nO (.buildSlice 23 0 #[]) 57,.Z),
 (nO (.fieldAddr 25 (T 1) 1) 58,.L 0 0 []),
 (nO (.load 23 (T 58)) 59,.L 0 0 []),
 (nO (.call {callee:=.builtin .append,args:=#[T 57,(T 59)],argTypes:=#[23,23]}) 60,.A [57,58,59,60,61,62,64,65] [61,62,64,65]),
 (nO (.fieldAddr 25 (T 1) 2) 61,.L 0 1 []),
 (nO (.load 23 (T 61)) 62,.L 0 1 []),
 (nO (.call {callee:=.builtin .append,args:=#[T 60,(T 62)],argTypes:=#[23,23]}) 63,.A [57,58,59,60,61,62,63,64,65] [64,65]),
 (nO (.fieldAddr 25 (T 1) 3) 64,.L 0 2 []),
 (nO (.load 23 (T 64)) 65,.L 0 2 []),
 (nO (.call {callee:=.builtin .append,args:=#[T 63,(T 65)],argTypes:=#[23,23]}) 66,.A [57,58,59,60,61,62,63,64,65,66] []),
 (nO (.assign (T 66)) 5,.L 3 3 [])]
def sc40d7:SC:=.draw sc40r7
def sc40r8:List SOp:=[nO (.assign (cI 0)) 6]
def sc40r9:List SOp:=[mvO 6 67,
 mvO 5 68,
 nO (.call {callee:=.builtin .len,args:=#[T 68],argTypes:=#[23]}) 69,
 nO (.binOp .lss 3 (T 67) (T 69) 3) 70]
def sc40r10:List SOp:=[mvO 4 73,
 mvO 5 74,
 mvO 6 75,
 nO (.indexAddr 23 (T 74) (T 75)) 76,
 ldO 3 76 77,
 nO (.indexAddr 150 (T 73) (T 77)) 78,
 ldO 4 78 79]
def sc40r11:List SOp:=[nO (.assign cN) 2]
def sc40r12:List SOp:=[mvO 4 80,
 mvO 5 81,
 mvO 6 82,
 nO (.indexAddr 23 (T 81) (T 82)) 83,
 ldO 3 83 84,
 nO (.indexAddr 150 (T 80) (T 84)) 85,
 ⟨none,.store 4 (T 85) cT,none⟩]
def sc40r13:List SOp:=[mvO 6 71,
 nO (.binOp .add 3 (T 71) (cI 1) 3) 72,
 asO 72 6]
def sc40l14:SC:=(.seq (.seq (.reg sc40r9) (.cond (T 70) .skip (.exit 0))) (.seq (.block 1 (.seq (.seq (.reg sc40r10) (.cond (T 79) (.seq (.reg sc40r11) .ret) .skip)) (.reg sc40r12))) (.reg sc40r13)))
def sc40r15:List SOp:=[nO (.assign cT) 2]
def sc40:SC:=(.seq (.reg sc40r0) (.seq (.reg sc40r1) (.seq (.seq (.reg sc40r2) (.cond (T 35) (.seq (.reg sc40r3) .ret) .skip)) (.seq (.seq (.reg sc40r4) (.cond (T 54) (.seq (.reg sc40r5) .ret) .skip)) (.seq (.reg sc40r6) (.seq sc40d7 (.seq (.seq (.reg sc40r8) (.block 0 (.loop sc40l14))) (.seq (.reg sc40r15) .ret))))))))
theorem ext40:cx.ext 40=none:=by kernel_rfl
theorem ct40:CT 40 86 sc40 [.tmp 2]:=mkCT (fn:=Tryz.f40) (by kernel_rfl) (by kernel_rfl) rfl rfl (by kernel_rfl)
-- understory/understoryref08.Is
def sc41r0:List SOp:=[nO (.box 25 (T 0)) 2,
 nO (.box 32 (T 1)) 3,
 nO (.assign cN) 4]
def sc41r1:List SOp:=[faO 32 3 0 10,
 ldO 29 10 11,
 nO (cF 85 #[T 11] #[29]) 12,
 nO (.unOp .not 4 (T 12)) 13]
def sc41r2:List SOp:=[nO (.assign cN) 4]
def sc41r3:List SOp:=[faO 32 3 1 14,
 ldO 3 14 15,
 nO (.binOp .eql 3 (T 15) (cI 0) 3) 16,
 mvO 16 17,
 fO 17 (.fieldAddr 32 (T 3) 1) 18,
 fO 17 (.load 3 (T 18)) 19,
 fO 17 (.binOp .eql 3 (T 19) (cI 2) 3) 20,
 nO (.pick (T 17) cT (T 20)) 21]
def sc41r4:List SOp:=[faO 32 3 2 22,
 ldO 9 22 23,
 nO (.binOp .eql 9 (T 23) (.const (.string (ByteArray.mk #[]))) 9) 24,
 mvO 24 25,
 tO 25 (.fieldAddr 32 (T 3) 3) 26,
 tO 25 (.load 30 (T 26)) 27,
 tO 25 (.call {callee:=.builtin .len,args:=#[T 27],argTypes:=#[30]}) 28,
 tO 25 (.binOp .eql 3 (T 28) (cI 0) 3) 29,
 nO (.pick (T 25) (T 29) cN) 30,
 asO 30 4]
def sc41r5:List SOp:=[faO 32 3 1 31,
 ldO 3 31 32,
 nO (.binOp .neq 3 (T 32) (cI 1) 3) 33,
 mvO 33 34,
 fO 34 (.fieldAddr 32 (T 3) 0) 35,
 fO 34 (.fieldAddr 29 (T 35) 0) 36,
 fO 34 (.load 3 (T 36)) 37,
 fO 34 (.binOp .eql 3 (T 37) (cI 0) 3) 38,
 nO (.pick (T 34) cT (T 38)) 39,
 mvO 39 40,
 fO 40 (.fieldAddr 32 (T 3) 3) 41,
 fO 40 (.load 30 (T 41)) 42,
 fO 40 (.call {callee:=.builtin .len,args:=#[T 42],argTypes:=#[30]}) 43,
 fO 40 (.binOp .eql 3 (T 43) (cI 0) 3) 44,
 nO (.pick (T 40) cT (T 44)) 45]
def sc41r6:List SOp:=[nO (.assign cN) 4]
def sc41r7:List SOp:=[faO 32 3 0 46,
 faO 29 46 0 47,
 ldO 3 47 48,
 asO 48 5]
def sc41r8:List SOp:=[nO (.assign (.const (.string (ByteArray.mk #[])))) 6]
def sc41r9:List SOp:=[nO (.assign (cI 0)) 7]
def sc41r10:List SOp:=[mvO 7 49,
 faO 32 3 3 50,
 ldO 30 50 51,
 nO (.call {callee:=.builtin .len,args:=#[T 51],argTypes:=#[30]}) 52,
 nO (.binOp .lss 3 (T 49) (T 52) 3) 53]
def sc41r11:List SOp:=[faO 32 3 3 56,
 ldO 30 56 57,
 mvO 7 58,
 nO (.indexAddr 30 (T 57) (T 58)) 59,
 ldO 93 59 60,
 nO (.alloc 93) 8,
 ⟨none,.store 93 (T 8) (T 60),none⟩]
def sc41r12:List SOp:=[ldO 25 2 61,
 faO 93 8 0 62,
 ldO 3 62 63,
 nO (cF 86 #[T 61,(T 63)] #[25,3]) 64,
 nO (.alloc 153) 9,
 ⟨none,.store 153 (T 9) (T 64),none⟩]
def sc41r13:List SOp:=[faO 93 8 0 65,
 ldO 3 65 66,
 mvO 5 67,
 nO (.binOp .neq 3 (T 66) (T 67) 3) 68,
 mvO 68 69,
 fO 69 (.fieldAddr 153 (T 9) 2) 70,
 fO 69 (.load 36 (T 70)) 71,
 fO 69 (.binOp .neq 36 (T 71) (cI 0) 36) 72,
 nO (.pick (T 69) cT (T 72)) 73,
 mvO 73 74,
 fO 74 (.fieldAddr 153 (T 9) 1) 75,
 fO 74 (.load 3 (T 75)) 76,
 fO 74 (.fieldAddr 32 (T 3) 3) 77,
 fO 74 (.load 30 (T 77)) 78,
 fO 74 (.call {callee:=.builtin .len,args:=#[T 78],argTypes:=#[30]}) 79,
 fO 74 (.binOp .sub 3 (T 79) (cI 1) 3) 80,
 fO 74 (.move (T 7)) 81,
 fO 74 (.binOp .sub 3 (T 80) (T 81) 3) 82,
 fO 74 (.binOp .neq 3 (T 76) (T 82) 3) 83,
 nO (.pick (T 74) cT (T 83)) 84,
 mvO 84 85,
 fO 85 (.fieldAddr 93 (T 8) 1) 86,
 fO 85 (.load 3 (T 86)) 87,
 fO 85 (.binOp .lss 3 (T 87) (cI 0) 3) 88,
 nO (.pick (T 85) cT (T 88)) 89,
 mvO 89 90,
 fO 90 (.fieldAddr 93 (T 8) 1) 91,
 fO 90 (.load 3 (T 91)) 92,
 fO 90 (.fieldAddr 153 (T 9) 0) 93,
 fO 90 (.load 59 (T 93)) 94,
 fO 90 (.call {callee:=.builtin .len,args:=#[T 94],argTypes:=#[59]}) 95,
 fO 90 (.binOp .geq 3 (T 92) (T 95) 3) 96,
 nO (.pick (T 90) cT (T 96)) 97]
def sc41r14:List SOp:=[nO (.assign cN) 4]
def sc41r15:List SOp:=[faO 153 9 0 98,
 ldO 59 98 99,
 faO 93 8 1 100,
 ldO 3 100 101,
 nO (.indexAddr 59 (T 99) (T 101)) 102,
 faO 64 102 4 103,
 ldO 3 103 104,
 asO 104 5]
def sc41r16:List SOp:=[faO 153 9 0 105,
 ldO 59 105 106,
 faO 93 8 1 107,
 ldO 3 107 108,
 nO (.indexAddr 59 (T 106) (T 108)) 109,
 faO 64 109 0 110,
 ldO 9 110 111,
 asO 111 6]
def sc41r17:List SOp:=[mvO 7 54,
 nO (.binOp .add 3 (T 54) (cI 1) 3) 55,
 asO 55 7]
def sc41l18:SC:=(.seq (.seq (.reg sc41r10) (.cond (T 53) .skip (.exit 0))) (.seq (.block 1 (.seq (.reg sc41r11) (.seq (.reg sc41r12) (.seq (.seq (.reg sc41r13) (.cond (T 97) (.seq (.reg sc41r14) .ret) .skip)) (.seq (.reg sc41r15) (.reg sc41r16)))))) (.reg sc41r17)))
def sc41r19:List SOp:=[mvO 6 112,
 faO 32 3 2 113,
 ldO 9 113 114,
 nO (.binOp .eql 9 (T 112) (T 114) 9) 115,
 asO 115 4]
def sc41:SC:=(.seq (.reg sc41r0) (.seq (.seq (.reg sc41r1) (.cond (T 13) (.seq (.reg sc41r2) .ret) .skip)) (.seq (.seq (.reg sc41r3) (.cond (T 21) (.seq (.reg sc41r4) .ret) .skip)) (.seq (.seq (.reg sc41r5) (.cond (T 45) (.seq (.reg sc41r6) .ret) .skip)) (.seq (.reg sc41r7) (.seq (.reg sc41r8) (.seq (.seq (.reg sc41r9) (.block 0 (.loop sc41l18))) (.seq (.reg sc41r19) .ret))))))))
theorem ext41:cx.ext 41=none:=by kernel_rfl
theorem ct41:CT 41 116 sc41 [.tmp 4]:=mkCT (fn:=Tryz.f41) (by kernel_rfl) (by kernel_rfl) rfl rfl (by kernel_rfl)
-- understory/cursor.must
def sc69r0:List SOp:=[mvO 0 2,
 nO (.binOp .neq 36 (T 2) (cI 0) 36) 3]
def sc69r1:List SOp:=[mvO 0 4,
 nO (.build 142 #[(0,(T 4))]) 5,
 nO (.makeInterface 142 (T 5)) 6,
 ⟨none,.panic (T 6),none⟩]
def sc69:SC:=(.seq (.reg sc69r0) (.cond (T 3) (.reg sc69r1) .skip))
theorem ext69:cx.ext 69=none:=by kernel_rfl
theorem ct69:CT 69 7 sc69 []:=mkCT (fn:=Tryz.f69) (by kernel_rfl) (by kernel_rfl) rfl rfl (by kernel_rfl)
-- (*understory/cursor.walker).check
def sc82r0:List SOp:=[nO (.box 32 (T 1)) 3]
def sc82r1:List SOp:=[faO 32 3 0 5,
 ldO 29 5 6,
 nO (cF 149 #[T 6] #[29]) 7,
 nO (.unOp .not 4 (T 7)) 8,
 asO 8 4]
def sc82r2:List SOp:=[nO (cF 69 #[(cI 6)] #[36]) 9]
def sc82r3:List SOp:=[faO 32 3 1 11,
 ldO 3 11 12,
 nO (.binOp .eql 3 (T 12) (cI 1) 3) 13,
 mvO 13 14,
 tO 14 (.fieldAddr 32 (T 3) 0) 15,
 tO 14 (.load 29 (T 15)) 16,
 tO 14 (.build 29 #[]) 17,
 tO 14 (.binOp .neq 29 (T 16) (T 17) 29) 18,
 nO (.pick (T 14) (T 18) cN) 19,
 asO 19 10]
def sc82r4:List SOp:=[mvO 0 20,
 ldO 32 3 21,
 nO (cF 169 #[T 20,(T 21)] #[89,32]) 22]
def sc82r5:List SOp:=[faO 32 3 1 24,
 ldO 3 24 25,
 nO (.binOp .neq 3 (T 25) (cI 0) 3) 26,
 mvO 26 27,
 tO 27 (.fieldAddr 32 (T 3) 1) 28,
 tO 27 (.load 3 (T 28)) 29,
 tO 27 (.binOp .neq 3 (T 29) (cI 2) 3) 30,
 nO (.pick (T 27) (T 30) cN) 31,
 mvO 31 32,
 fO 32 (.fieldAddr 32 (T 3) 2) 33,
 fO 32 (.load 9 (T 33)) 34,
 fO 32 (.binOp .neq 9 (T 34) (.const (.string (ByteArray.mk #[]))) 9) 35,
 nO (.pick (T 32) cT (T 35)) 36,
 mvO 36 37,
 fO 37 (.fieldAddr 32 (T 3) 3) 38,
 fO 37 (.load 30 (T 38)) 39,
 fO 37 (.call {callee:=.builtin .len,args:=#[T 39],argTypes:=#[30]}) 40,
 fO 37 (.binOp .gtr 3 (T 40) (cI 0) 3) 41,
 nO (.pick (T 37) cT (T 41)) 42,
 asO 42 23]
def sc82r6:List SOp:=[nO (cF 69 #[(cI 6)] #[36]) 43]
def sc82:SC:=(.seq (.reg sc82r0) (.block 0 (.seq (.reg sc82r1) (.cond (T 4) (.reg sc82r2) (.seq (.reg sc82r3) (.cond (T 10) (.reg sc82r4) (.seq (.reg sc82r5) (.cond (T 23) (.reg sc82r6) .skip))))))))
theorem ext82:cx.ext 82=none:=by kernel_rfl
theorem ct82:CT 82 44 sc82 []:=mkCT (fn:=Tryz.f82) (by kernel_rfl) (by kernel_rfl) rfl rfl (by kernel_rfl)
-- understory/tree.Sound
def sc83r0:List SOp:=[nO (.box 25 (T 0)) 1,
 nO (.assign (cI 0)) 2]
def sc83r1:List SOp:=[faO 25 1 0 9,
 ldO 22 9 10,
 nO (.call {callee:=.builtin .len,args:=#[T 10],argTypes:=#[22]}) 11,
 asO 11 3]
def sc83r2:List SOp:=[mvO 3 12,
 nO (.binOp .lss 3 (T 12) (cI 2) 3) 13,
 mvO 13 14,
 fO 14 (.move (T 3)) 15,
 fO 14 (.binOp .gtr 3 (T 15) (cI 4096) 3) 16,
 nO (.pick (T 14) cT (T 16)) 17,
 mvO 17 18,
 fO 18 (.fieldAddr 25 (T 1) 4) 19,
 fO 18 (.load 3 (T 19)) 20,
 fO 18 (.binOp .lss 3 (T 20) (cI 0) 3) 21,
 nO (.pick (T 18) cT (T 21)) 22,
 mvO 22 23,
 fO 23 (.fieldAddr 25 (T 1) 4) 24,
 fO 23 (.load 3 (T 24)) 25,
 fO 23 (.binOp .gtr 3 (T 25) (cI 1099511627776) 3) 26,
 nO (.pick (T 23) cT (T 26)) 27,
 mvO 27 28,
 fO 28 (.fieldAddr 25 (T 1) 5) 29,
 fO 28 (.load 3 (T 29)) 30,
 fO 28 (.binOp .lss 3 (T 30) (cI 0) 3) 31,
 nO (.pick (T 28) cT (T 31)) 32,
 mvO 32 33,
 fO 33 (.fieldAddr 25 (T 1) 5) 34,
 fO 33 (.load 3 (T 34)) 35,
 fO 33 (.binOp .gtr 3 (T 35) (cI 255) 3) 36,
 nO (.pick (T 33) cT (T 36)) 37]
def sc83r3:List SOp:=[nO (.assign (cI 2)) 2]
def sc83r4:List SOp:=[mvO 3 38,
 nO (.makeSlice 150 (T 38) (T 38)) 39,
 asO 39 4]
def sc83r5:List SOp:=[faO 25 1 1 40,
 ldO 23 40 41,
 faO 25 1 2 42,
 ldO 23 42 43,
 faO 25 1 3 44,
 ldO 23 44 45,
 nO (.buildSlice 258 3 #[(0,(T 41)),(1,(T 43)),(2,(T 45))]) 46,
 nO (.call {callee:=.builtin .len,args:=#[T 46],argTypes:=#[258]}) 47,
 nO (.move (cI 0)) 48]
def sc83r6:List SOp:=[nO (.binOp .lss 3 (T 48) (T 47) 3) 49]
def sc83r7:List SOp:=[nO (.indexAddr 258 (T 46) (T 48)) 50,
 ldO 23 50 51,
 asO 51 6]
def sc83r8:List SOp:=[mvO 6 52,
 nO (.call {callee:=.builtin .len,args:=#[T 52],argTypes:=#[23]}) 53,
 nO (.move (cI 0)) 54]
def sc83r9:List SOp:=[nO (.binOp .lss 3 (T 54) (T 53) 3) 55]
def sc83r10:List SOp:=[mvO 54 56,
 nO (.indexAddr 23 (T 52) (T 54)) 57,
 ldO 3 57 58,
 asO 56 7,
 asO 58 8]
def sc83r11:List SOp:=[mvO 8 59,
 nO (.binOp .lss 3 (T 59) (cI 2) 3) 60,
 mvO 60 61,
 fO 61 (.move (T 8)) 62,
 fO 61 (.move (T 3)) 63,
 fO 61 (.binOp .geq 3 (T 62) (T 63) 3) 64,
 nO (.pick (T 61) cT (T 64)) 65,
 mvO 65 66,
 fO 66 (.move (T 4)) 67,
 fO 66 (.move (T 8)) 68,
 fO 66 (.indexAddr 150 (T 67) (T 68)) 69,
 fO 66 (.load 4 (T 69)) 70,
 nO (.pick (T 66) cT (T 70)) 71,
 mvO 71 72,
 fO 72 (.move (T 7)) 73,
 fO 72 (.binOp .gtr 3 (T 73) (cI 0) 3) 74,
 fO 72 (.move (T 74)) 75,
 tO 75 (.move (T 8)) 76,
 tO 75 (.move (T 6)) 77,
 tO 75 (.move (T 7)) 78,
 tO 75 (.binOp .sub 3 (T 78) (cI 1) 3) 79,
 tO 75 (.indexAddr 23 (T 77) (T 79)) 80,
 tO 75 (.load 3 (T 80)) 81,
 tO 75 (.binOp .leq 3 (T 76) (T 81) 3) 82,
 fO 72 (.pick (T 75) (T 82) cN) 83,
 nO (.pick (T 72) cT (T 83)) 84]
def sc83r12:List SOp:=[nO (.assign (cI 2)) 2]
def sc83r13:List SOp:=[mvO 4 85,
 mvO 8 86,
 nO (.indexAddr 150 (T 85) (T 86)) 87,
 ⟨none,.store 4 (T 87) cT,none⟩]
def sc83r14:List SOp:=[nO (.binOp .add 3 (T 54) (cI 1) 3) 88,
 mvO 88 54]
def sc83l15:SC:=(.seq (.reg sc83r9) (.seq (.cond (T 55) .skip (.exit 2)) (.seq (.block 3 (.seq (.reg sc83r10) (.seq (.seq (.reg sc83r11) (.cond (T 84) (.seq (.reg sc83r12) .ret) .skip)) (.reg sc83r13)))) (.reg sc83r14))))
def sc83r16:List SOp:=[nO (.binOp .add 3 (T 48) (cI 1) 3) 89,
 mvO 89 48]
def sc83l17:SC:=(.seq (.reg sc83r6) (.seq (.cond (T 49) .skip (.exit 0)) (.seq (.block 1 (.seq (.reg sc83r7) (.seq (.reg sc83r8) (.block 2 (.loop sc83l15))))) (.reg sc83r16))))
def sc83r18:List SOp:=[nO (.assign (cI 0)) 2]
def sc83:SC:=(.seq (.reg sc83r0) (.seq (.reg sc83r1) (.seq (.seq (.reg sc83r2) (.cond (T 37) (.seq (.reg sc83r3) .ret) .skip)) (.seq (.reg sc83r4) (.seq (.seq (.reg sc83r5) (.block 0 (.loop sc83l17))) (.seq (.reg sc83r18) .ret))))))
theorem ext83:cx.ext 83=none:=by kernel_rfl
theorem ct83:CT 83 90 sc83 [.tmp 2]:=mkCT (fn:=Tryz.f83) (by kernel_rfl) (by kernel_rfl) rfl rfl (by kernel_rfl)
-- understory/understoryref07.increasing
def sc84r0:List SOp:=[nO (.assign cN) 4]
def sc84r1:List SOp:=[nO (.assign (cI 0)) 5]
def sc84r2:List SOp:=[mvO 5 6,
 mvO 0 7,
 nO (.call {callee:=.builtin .len,args:=#[T 7],argTypes:=#[23]}) 8,
 nO (.binOp .lss 3 (T 6) (T 8) 3) 9]
def sc84r3:List (SOp×DK):=[(nO (.move (T 0)) 12,.L 0 0 []),
 (nO (.move (T 5)) 13,.L 0 0 []),
 (nO (.indexAddr 23 (T 12) (T 13)) 14,.L 0 0 []),
 (nO (.load 3 (T 14)) 15,.L 0 0 []),
 (nO (.binOp .lss 3 (T 15) (cI 2) 3) 16,.L 0 0 []),
 (nO (.move (T 16)) 17,.L 0 0 []),
 (fO 17 (.move (T 0)) 18,.L 0 0 []),
 (fO 17 (.move (T 5)) 19,.L 0 0 []),
 (fO 17 (.indexAddr 23 (T 18) (T 19)) 20,.L 0 0 []),
 (fO 17 (.load 3 (T 20)) 21,.L 0 0 []),
 (fO 17 (.move (T 1)) 22,.L 0 0 []),
 (fO 17 (.binOp .geq 3 (T 21) (T 22) 3) 23,.L 0 0 []),
 (nO (.pick (T 17) cT (T 23)) 24,.L 0 0 []),
 (nO (.move (T 24)) 25,.L 0 0 []),
 (fO 25 (.move (T 5)) 26,.L 0 0 []),
 (fO 25 (.binOp .gtr 3 (T 26) (cI 0) 3) 27,.L 0 0 []),
 (fO 25 (.move (T 27)) 28,.L 0 0 []),
 (tO 28 (.move (T 0)) 29,.L 0 0 []),
 (tO 28 (.move (T 5)) 30,.L 0 0 []),
 (tO 28 (.indexAddr 23 (T 29) (T 30)) 31,.L 0 0 []),
 (tO 28 (.load 3 (T 31)) 32,.L 0 0 []),
 (tO 28 (.move (T 0)) 33,.L 0 0 []),
 (tO 28 (.move (T 5)) 34,.L 0 0 []),
 (tO 28 (.binOp .sub 3 (T 34) (cI 1) 3) 35,.L 0 0 []),
 (tO 28 (.indexAddr 23 (T 33) (T 35)) 36,.L 0 0 []),
 (tO 28 (.load 3 (T 36)) 37,.L 0 0 []),
 (tO 28 (.binOp .leq 3 (T 32) (T 37) 3) 38,.L 0 0 []),
 (fO 25 (.pick (T 28) (T 38) cN) 39,.L 0 0 []),
 (nO (.pick (T 25) cT (T 39)) 40,.L 0 0 [])]
def sc84d3:SC:=.draw sc84r3
theorem sc84d3_x{o rd Q t h d r}:xC cx o rd sc84d3 Q t h d r=xDraw cx o rd Q sc84r3 0 [h] [] [] t h d r:=xC_draw (by kernel_rfl)
def sc84r4:List SOp:=[nO (.assign cN) 4]
def sc84r5:List SOp:=[mvO 5 10,
 nO (.binOp .add 3 (T 10) (cI 1) 3) 11,
 asO 11 5]
def sc84l6:SC:=(.seq (.seq (.reg sc84r2) (.cond (T 9) .skip (.exit 0))) (.seq (.block 1 (.seq sc84d3 (.cond (T 40) (.seq (.reg sc84r4) .ret) .skip))) (.reg sc84r5)))
def sc84r7:List SOp:=[nO (.assign cT) 4]
def sc84:SC:=(.seq (.reg sc84r0) (.seq (.seq (.reg sc84r1) (.block 0 (.loop sc84l6))) (.seq (.reg sc84r7) .ret)))
theorem ext84:cx.ext 84=none:=by kernel_rfl
theorem ct84:CT 84 41 sc84 [.tmp 4]:=mkCT (fn:=Tryz.f84) (by kernel_rfl) (by kernel_rfl) rfl rfl (by kernel_rfl)
-- understory/understoryref07.Plausible
def sc85r0:List SOp:=[nO (.box 29 (T 0)) 1,
 nO (.assign cN) 2]
def sc85r1:List SOp:=[ldO 29 1 3,
 nO (.build 29 #[]) 4,
 nO (.binOp .eql 29 (T 3) (T 4) 29) 5]
def sc85r2:List SOp:=[nO (.assign cT) 2]
def sc85r3:List SOp:=[faO 29 1 0 6,
 ldO 3 6 7,
 nO (.binOp .geq 3 (T 7) (cI 2) 3) 8,
 mvO 8 9,
 tO 9 (.fieldAddr 29 (T 1) 0) 10,
 tO 9 (.load 3 (T 10)) 11,
 tO 9 (.binOp .lss 3 (T 11) (cI 4096) 3) 12,
 nO (.pick (T 9) (T 12) cN) 13,
 mvO 13 14,
 tO 14 (.fieldAddr 29 (T 1) 1) 15,
 tO 14 (.load 3 (T 15)) 16,
 tO 14 (.binOp .geq 3 (T 16) (cI 1) 3) 17,
 nO (.pick (T 14) (T 17) cN) 18,
 mvO 18 19,
 tO 19 (.fieldAddr 29 (T 1) 1) 20,
 tO 19 (.load 3 (T 20)) 21,
 tO 19 (.binOp .leq 3 (T 21) (cI 2147483647) 3) 22,
 nO (.pick (T 19) (T 22) cN) 23,
 asO 23 2]
def sc85:SC:=(.seq (.reg sc85r0) (.seq (.seq (.reg sc85r1) (.cond (T 5) (.seq (.reg sc85r2) .ret) .skip)) (.seq (.reg sc85r3) .ret)))
theorem ext85:cx.ext 85=none:=by kernel_rfl
theorem ct85:CT 85 24 sc85 [.tmp 2]:=mkCT (fn:=Tryz.f85) (by kernel_rfl) (by kernel_rfl) rfl rfl (by kernel_rfl)
-- understory/understoryref07.Node
def sc86r0:List SOp:=[nO (.box 25 (T 0)) 2,
 nO (.alloc 153) 4]
def sc86r1:List SOp:=[ldO 25 2 8,
 nO (cF 170 #[T 8] #[25]) 9,
 asO 9 5]
def sc86r2:List SOp:=[mvO 5 10,
 mvO 1 11,
 nO (cF 171 #[T 10,(T 11)] #[155,3]) 12,
 asO 12 6]
def sc86r3:List SOp:=[mvO 5 13,
 mvO 1 14,
 mvO 6 15,
 nO (cF 172 #[T 13,(T 14),(T 15)] #[155,3,3]) 16,
 asO 16 7]
def sc86r4:List SOp:=[mvO 5 17,
 ncO 17 18,
 faO 164 18 1 19,
 ldO 36 19 20,
 nO (.binOp .neq 36 (T 20) (cI 0) 36) 21]
def sc86r5:List SOp:=[mvO 5 22,
 ncO 22 23,
 faO 164 23 1 24,
 ldO 36 24 25,
 nO (.build 153 #[(2,(T 25))]) 26,
 ⟨none,.store 153 (T 4) (T 26),none⟩]
def sc86r6:List SOp:=[mvO 7 27,
 mvO 6 28,
 nO (.build 153 #[(0,(T 27)),(1,(T 28))]) 29,
 ⟨none,.store 153 (T 4) (T 29),none⟩]
def sc86:SC:=(.seq (.reg sc86r0) (.seq (.reg sc86r1) (.seq (.reg sc86r2) (.seq (.reg sc86r3) (.seq (.seq (.reg sc86r4) (.cond (T 21) (.seq (.reg sc86r5) .ret) .skip)) (.seq (.reg sc86r6) .ret))))))
theorem ext86:cx.ext 86=none:=by kernel_rfl
theorem ct86:CT 86 30 sc86 [.cell 4 153]:=mkCT (fn:=Tryz.f86) (by kernel_rfl) (by kernel_rfl) rfl rfl (by kernel_rfl)
-- (*understory/understoryref07.Work).need
def sc89r0:List SOp:=[nO (.assign cN) 6]
def sc89r1:List SOp:=[mvO 1 7,
 nO (.unOp .not 4 (T 7)) 8]
def sc89r2:List SOp:=[mvO 0 9,
 mvO 2 10,
 nO (cF 176 #[T 9,(T 10)] #[155,36]) 11]
def sc89r3:List SOp:=[mvO 0 12,
 ncO 12 13,
 faO 164 13 1 14,
 ldO 36 14 15,
 nO (.binOp .eql 36 (T 15) (cI 0) 36) 16,
 asO 16 6]
def sc89:SC:=(.seq (.reg sc89r0) (.seq (.seq (.reg sc89r1) (.cond (T 8) (.reg sc89r2) .skip)) (.seq (.reg sc89r3) .ret)))
theorem ext89:cx.ext 89=none:=by kernel_rfl
theorem ct89:CT 89 17 sc89 [.tmp 6]:=mkCT (fn:=Tryz.f89) (by kernel_rfl) (by kernel_rfl) rfl rfl (by kernel_rfl)
-- slices.Clone[[]understory/api.Page,understory/api.Page]
def sc128r0:List SOp:=[nO (.assign (.const (.slice none 0 0))) 2]
def sc128r1:List SOp:=[mvO 0 3,
 nO (.binOp .eql 22 (T 3) (.const (.slice none 0 0)) 22) 4]
def sc128r2:List SOp:=[nO (.assign (.const (.slice none 0 0))) 2]
def sc128r3:List SOp:=[nO (.buildSlice 22 0 #[]) 5,
 mvO 0 6,
 nO (.call {callee:=.builtin .append,args:=#[T 5,(T 6)],argTypes:=#[22,22]}) 7,
 asO 7 2]
def sc128:SC:=(.seq (.reg sc128r0) (.seq (.seq (.reg sc128r1) (.cond (T 4) (.seq (.reg sc128r2) .ret) .skip)) (.seq (.reg sc128r3) .ret)))
theorem ext128:cx.ext 128=none:=by kernel_rfl
theorem ct128:CT 128 8 sc128 [.tmp 2]:=mkCT (fn:=Tryz.f128) (by kernel_rfl) (by kernel_rfl) rfl rfl (by kernel_rfl)
-- slices.Clone[[]int,int]
def sc129r0:List SOp:=[nO (.assign (.const (.slice none 0 0))) 2]
def sc129r1:List SOp:=[mvO 0 3,
 nO (.binOp .eql 23 (T 3) (.const (.slice none 0 0)) 23) 4]
def sc129r2:List SOp:=[nO (.assign (.const (.slice none 0 0))) 2]
def sc129r3:List SOp:=[nO (.buildSlice 23 0 #[]) 5,
 mvO 0 6,
 nO (.call {callee:=.builtin .append,args:=#[T 5,(T 6)],argTypes:=#[23,23]}) 7,
 asO 7 2]
def sc129:SC:=(.seq (.reg sc129r0) (.seq (.seq (.reg sc129r1) (.cond (T 4) (.seq (.reg sc129r2) .ret) .skip)) (.seq (.reg sc129r3) .ret)))
theorem ext129:cx.ext 129=none:=by kernel_rfl
theorem ct129:CT 129 8 sc129 [.tmp 2]:=mkCT (fn:=Tryz.f129) (by kernel_rfl) (by kernel_rfl) rfl rfl (by kernel_rfl)
-- slices.BinarySearch[[]int,int]
def sc131r0:List SOp:=[nO (.assign (cI 0)) 4,
 nO (.assign cN) 5]
def sc131r1:List SOp:=[mvO 0 10,
 nO (.call {callee:=.builtin .len,args:=#[T 10],argTypes:=#[23]}) 11,
 asO 11 6]
def sc131r2:List SOp:=[mvO 6 12,
 nO (.assign (cI 0)) 7,
 asO 12 8]
def sc131r3:List SOp:=[mvO 7 13,
 mvO 8 14,
 nO (.binOp .lss 3 (T 13) (T 14) 3) 15]
def sc131r4:List SOp:=[mvO 7 16,
 mvO 8 17,
 nO (.binOp .add 3 (T 16) (T 17) 3) 18,
 nO (.convert 3 232 (T 18)) 19,
 nO (.binOp .shr 232 (T 19) (.const (.int .u64 1)) 232) 20,
 nO (.convert 232 3 (T 20)) 21,
 asO 21 9]
def sc131r5:List SOp:=[mvO 0 22,
 mvO 9 23,
 nO (.indexAddr 23 (T 22) (T 23)) 24,
 ldO 3 24 25,
 mvO 1 26,
 nO (cF 202 #[T 25,(T 26)] #[3,3]) 27]
def sc131r6:List SOp:=[mvO 9 28,
 nO (.binOp .add 3 (T 28) (cI 1) 3) 29,
 asO 29 7]
def sc131r7:List SOp:=[mvO 9 30,
 asO 30 8]
def sc131l8:SC:=(.seq (.seq (.reg sc131r3) (.cond (T 15) .skip (.exit 0))) (.block 1 (.seq (.reg sc131r4) (.seq (.reg sc131r5) (.cond (T 27) (.reg sc131r6) (.reg sc131r7))))))
def sc131r9:List SOp:=[mvO 7 31,
 mvO 7 32,
 mvO 6 33,
 nO (.binOp .lss 3 (T 32) (T 33) 3) 34,
 mvO 34 35,
 tO 35 (.move (T 0)) 36,
 tO 35 (.move (T 7)) 37,
 tO 35 (.indexAddr 23 (T 36) (T 37)) 38,
 tO 35 (.load 3 (T 38)) 39,
 tO 35 (.move (T 1)) 40,
 tO 35 (.binOp .eql 3 (T 39) (T 40) 3) 41,
 tO 35 (.move (T 41)) 42,
 fO 42 (.move (T 0)) 43,
 fO 42 (.move (T 7)) 44,
 fO 42 (.indexAddr 23 (T 43) (T 44)) 45,
 fO 42 (.load 3 (T 45)) 46,
 fO 42 (cF 203 #[T 46] #[3]) 47,
 fO 42 (.move (T 47)) 48,
 tO 48 (.move (T 1)) 49,
 tO 48 (cF 203 #[T 49] #[3]) 50,
 fO 42 (.pick (T 48) (T 50) cN) 51,
 tO 35 (.pick (T 42) cT (T 51)) 52,
 nO (.pick (T 35) (T 52) cN) 53,
 asO 31 4,
 asO 53 5]
def sc131:SC:=(.seq (.reg sc131r0) (.seq (.reg sc131r1) (.seq (.reg sc131r2) (.seq (.block 0 (.loop sc131l8)) (.seq (.reg sc131r9) .ret)))))
theorem ext131:cx.ext 131=none:=by kernel_rfl
theorem ct131:CT 131 54 sc131 [.tmp 4,.tmp 5]:=mkCT (fn:=Tryz.f131) (by kernel_rfl) (by kernel_rfl) rfl rfl (by kernel_rfl)
-- understory/page.Check
def sc138r0:List SOp:=[nO (.box 62 (T 0)) 1,
 nO (.assign (cI 0)) 2]
def sc138r1:List SOp:=[faO 62 1 1 4,
 ldO 3 4 5,
 nO (cF 210 #[T 5] #[3]) 6,
 nO (.unOp .not 4 (T 6)) 7,
 mvO 7 8,
 fO 8 (.fieldAddr 62 (T 1) 2) 9,
 fO 8 (.load 3 (T 9)) 10,
 fO 8 (cF 211 #[(T 10),(cI 0),(cI 1099511627776)] #[3,3,3]) 11,
 fO 8 (.unOp .not 4 (T 11)) 12,
 nO (.pick (T 8) cT (T 12)) 13]
def sc138r2:List SOp:=[nO (.assign (cI 2)) 2]
def sc138r3:List SOp:=[nO (.assign cN) 3]
def sc138r4:List SOp:=[faO 62 1 0 14,
 ldO 3 14 15]
def sc138r5:List SOp:=[nO (.binOp .eql 3 (T 15) (cI 1) 3) 17,
 asO 17 16]
def sc138r6:List SOp:=[nO (.binOp .eql 3 (T 15) (cI 2) 3) 18,
 asO 18 16]
def sc138r7:List SOp:=[faO 62 1 3 19,
 ldO 3 19 20,
 nO (cF 211 #[(T 20),(cI 0),(cI 255)] #[3,3,3]) 21,
 mvO 21 22,
 tO 22 (.fieldAddr 62 (T 1) 0) 23,
 tO 22 (.load 3 (T 23)) 24,
 tO 22 (.binOp .eql 3 (T 24) (cI 1) 3) 25,
 tO 22 (.fieldAddr 62 (T 1) 4) 26,
 tO 22 (.load 3 (T 26)) 27,
 tO 22 (.binOp .eql 3 (T 27) (cI 0) 3) 28,
 tO 22 (.binOp .eql 4 (T 25) (T 28) 4) 29,
 nO (.pick (T 22) (T 29) cN) 30,
 mvO 30 31,
 tO 31 (.fieldAddr 62 (T 1) 6) 32,
 tO 31 (.load 59 (T 32)) 33,
 tO 31 (.fieldAddr 62 (T 1) 4) 34,
 tO 31 (.load 3 (T 34)) 35,
 tO 31 (cF 212 #[T 33,(T 35)] #[59,3]) 36,
 nO (.pick (T 31) (T 36) cN) 37,
 mvO 37 38,
 tO 38 (.fieldAddr 62 (T 1) 7) 39,
 tO 38 (.load 3 (T 39)) 40,
 tO 38 (.binOp .eql 3 (T 40) (cI 0) 3) 41,
 nO (.pick (T 38) (T 41) cN) 42,
 mvO 42 43,
 tO 43 (.fieldAddr 62 (T 1) 8) 44,
 tO 43 (.load 9 (T 44)) 45,
 tO 43 (.binOp .eql 9 (T 45) (.const (.string (ByteArray.mk #[]))) 9) 46,
 nO (.pick (T 43) (T 46) cN) 47,
 mvO 47 48,
 tO 48 (.fieldAddr 62 (T 1) 9) 49,
 tO 48 (.load 60 (T 49)) 50,
 tO 48 (.call {callee:=.builtin .len,args:=#[T 50],argTypes:=#[60]}) 51,
 tO 48 (.binOp .eql 3 (T 51) (cI 0) 3) 52,
 nO (.pick (T 48) (T 52) cN) 53,
 asO 53 3]
def sc138r8:List SOp:=[nO (.binOp .eql 3 (T 15) (cI 3) 3) 55,
 asO 55 54]
def sc138r9:List SOp:=[ldO 62 1 56,
 nO (cF 213 #[T 56] #[62]) 57,
 mvO 57 58,
 tO 58 (.fieldAddr 62 (T 1) 7) 59,
 tO 58 (.load 3 (T 59)) 60,
 tO 58 (cF 214 #[T 60] #[3]) 61,
 nO (.pick (T 58) (T 61) cN) 62,
 mvO 62 63,
 tO 63 (.fieldAddr 62 (T 1) 8) 64,
 tO 63 (.load 9 (T 64)) 65,
 tO 63 (.call {callee:=.builtin .len,args:=#[T 65],argTypes:=#[9]}) 66,
 tO 63 (cF 211 #[(T 66),(cI 1),(cI 490)] #[3,3,3]) 67,
 nO (.pick (T 63) (T 67) cN) 68,
 mvO 68 69,
 tO 69 (.fieldAddr 62 (T 1) 9) 70,
 tO 69 (.load 60 (T 70)) 71,
 tO 69 (.call {callee:=.builtin .len,args:=#[T 71],argTypes:=#[60]}) 72,
 tO 69 (.binOp .eql 3 (T 72) (cI 0) 3) 73,
 nO (.pick (T 69) (T 73) cN) 74,
 asO 74 3]
def sc138r10:List SOp:=[nO (.binOp .eql 3 (T 15) (cI 4) 3) 76,
 asO 76 75]
def sc138r11:List SOp:=[ldO 62 1 77,
 nO (cF 213 #[T 77] #[62]) 78,
 mvO 78 79,
 tO 79 (.fieldAddr 62 (T 1) 7) 80,
 tO 79 (.load 3 (T 80)) 81,
 tO 79 (cF 214 #[T 81] #[3]) 82,
 nO (.pick (T 79) (T 82) cN) 83,
 mvO 83 84,
 tO 84 (.fieldAddr 62 (T 1) 8) 85,
 tO 84 (.load 9 (T 85)) 86,
 tO 84 (.binOp .eql 9 (T 86) (.const (.string (ByteArray.mk #[]))) 9) 87,
 nO (.pick (T 84) (T 87) cN) 88,
 mvO 88 89,
 tO 89 (.fieldAddr 62 (T 1) 9) 90,
 tO 89 (.load 60 (T 90)) 91,
 tO 89 (cF 215 #[T 91] #[60]) 92,
 nO (.pick (T 89) (T 92) cN) 93,
 mvO 93 94,
 tO 94 (.fieldAddr 62 (T 1) 9) 95,
 tO 94 (.load 60 (T 95)) 96,
 tO 94 (cF 216 #[T 96] #[60]) 97,
 tO 94 (.binOp .leq 3 (T 97) (cI 496) 3) 98,
 nO (.pick (T 94) (T 98) cN) 99,
 asO 99 3]
def sc138r12:List SOp:=[mvO 3 100,
 nO (.unOp .not 4 (T 100)) 101]
def sc138r13:List SOp:=[nO (.assign (cI 2)) 2]
def sc138r14:List SOp:=[nO (.assign (cI 0)) 2]
def sc138:SC:=(.seq (.reg sc138r0) (.seq (.seq (.reg sc138r1) (.cond (T 13) (.seq (.reg sc138r2) .ret) .skip)) (.seq (.reg sc138r3) (.seq (.seq (.reg sc138r4) (.block 0 (.seq (.seq (.reg sc138r5) (.cond (T 16) .skip (.reg sc138r6))) (.cond (T 16) (.reg sc138r7) (.seq (.reg sc138r8) (.cond (T 54) (.reg sc138r9) (.seq (.reg sc138r10) (.cond (T 75) (.reg sc138r11) .skip)))))))) (.seq (.seq (.reg sc138r12) (.cond (T 101) (.seq (.reg sc138r13) .ret) .skip)) (.seq (.reg sc138r14) .ret))))))
theorem ext138:cx.ext 138=none:=by kernel_rfl
theorem ct138:CT 138 102 sc138 [.tmp 2]:=mkCT (fn:=Tryz.f138) (by kernel_rfl) (by kernel_rfl) rfl rfl (by kernel_rfl)
-- understory/understoryref04.Number
def sc147r0:List SOp:=[nO (.assign (.const (.string (ByteArray.mk #[])))) 4]
def sc147r1:List SOp:=[mvO 1 7,
 nO (.makeSlice 117 (T 7) (T 7)) 8,
 asO 8 5]
def sc147r2:List SOp:=[mvO 1 9,
 nO (.binOp .sub 3 (T 9) (cI 1) 3) 10,
 asO 10 6]
def sc147r3:List SOp:=[mvO 6 11,
 nO (.binOp .geq 3 (T 11) (cI 0) 3) 12]
def sc147r4:List SOp:=[mvO 5 15,
 mvO 6 16,
 mvO 0 17,
 nO (.binOp .rem 3 (T 17) (cI 256) 3) 18,
 nO (.convert 3 5 (T 18)) 19,
 nO (.indexAddr 117 (T 15) (T 16)) 20,
 ⟨none,.store 5 (T 20) (T 19),none⟩]
def sc147r5:List SOp:=[mvO 0 21,
 nO (.binOp .quo 3 (T 21) (cI 256) 3) 22,
 asO 22 0]
def sc147r6:List SOp:=[mvO 6 13,
 nO (.binOp .sub 3 (T 13) (cI 1) 3) 14,
 asO 14 6]
def sc147l7:SC:=(.seq (.seq (.reg sc147r3) (.cond (T 12) .skip (.exit 0))) (.seq (.block 1 (.seq (.reg sc147r4) (.reg sc147r5))) (.reg sc147r6)))
def sc147r8:List SOp:=[mvO 5 23,
 nO (.convert 117 9 (T 23)) 24,
 asO 24 4]
def sc147:SC:=(.seq (.reg sc147r0) (.seq (.reg sc147r1) (.seq (.seq (.reg sc147r2) (.block 0 (.loop sc147l7))) (.seq (.reg sc147r8) .ret))))
theorem ext147:cx.ext 147=none:=by kernel_rfl
theorem ct147:CT 147 25 sc147 [.tmp 4]:=mkCT (fn:=Tryz.f147) (by kernel_rfl) (by kernel_rfl) rfl rfl (by kernel_rfl)
-- understory/cursor.plausible
def sc149r0:List SOp:=[nO (.box 29 (T 0)) 1,
 nO (.assign cN) 2]
def sc149r1:List SOp:=[ldO 29 1 3,
 nO (.build 29 #[]) 4,
 nO (.binOp .eql 29 (T 3) (T 4) 29) 5,
 mvO 5 6,
 fO 6 (.fieldAddr 29 (T 1) 0) 7,
 fO 6 (.load 3 (T 7)) 8,
 fO 6 (.binOp .geq 3 (T 8) (cI 2) 3) 9,
 fO 6 (.move (T 9)) 10,
 tO 10 (.fieldAddr 29 (T 1) 0) 11,
 tO 10 (.load 3 (T 11)) 12,
 tO 10 (.binOp .lss 3 (T 12) (cI 4096) 3) 13,
 fO 6 (.pick (T 10) (T 13) cN) 14,
 fO 6 (.move (T 14)) 15,
 tO 15 (.fieldAddr 29 (T 1) 1) 16,
 tO 15 (.load 3 (T 16)) 17,
 tO 15 (.binOp .geq 3 (T 17) (cI 1) 3) 18,
 fO 6 (.pick (T 15) (T 18) cN) 19,
 fO 6 (.move (T 19)) 20,
 tO 20 (.fieldAddr 29 (T 1) 1) 21,
 tO 20 (.load 3 (T 21)) 22,
 tO 20 (.binOp .leq 3 (T 22) (cI 2147483647) 3) 23,
 fO 6 (.pick (T 20) (T 23) cN) 24,
 nO (.pick (T 6) cT (T 24)) 25,
 asO 25 2]
def sc149:SC:=(.seq (.reg sc149r0) (.seq (.reg sc149r1) .ret))
theorem ext149:cx.ext 149=none:=by kernel_rfl
theorem ct149:CT 149 26 sc149 [.tmp 2]:=mkCT (fn:=Tryz.f149) (by kernel_rfl) (by kernel_rfl) rfl rfl (by kernel_rfl)
-- understory/tree.recovered
def sc156r0:List SOp:=[nO (.call {callee:=.builtin .recover,args:=#[],argTypes:=#[]}) 5]
def sc156r1:List SOp:=[nO (.binOp .eql 20 (T 5) (.const .nilIface) 20) 7]
def sc156r2:List SOp:=[asO 5 2]
def sc156r3:List SOp:=[nO (.typeAssert (T 5) 20 326 true) 8,
 nO (.extract (T 8) 1) 9,
 nO (.extract (T 8) 0) 10]
def sc156r4:List SOp:=[nO (.alloc 326) 3,
 ⟨none,.store 326 (T 3) (T 10),none⟩]
def sc156r5:List SOp:=[mvO 0 11,
 faO 326 3 0 12,
 ldO 36 12 13,
 ncO 11 14,
 ⟨none,.store 36 (T 14) (T 13),none⟩]
def sc156r6:List SOp:=[asO 5 4]
def sc156r7:List SOp:=[mvO 4 6,
 ⟨none,.panic (T 6),none⟩]
def sc156:SC:=(.seq (.reg sc156r0) (.block 0 (.seq (.reg sc156r1) (.cond (T 7) (.reg sc156r2) (.seq (.reg sc156r3) (.cond (T 9) (.seq (.reg sc156r4) (.reg sc156r5)) (.seq (.reg sc156r6) (.reg sc156r7))))))))
theorem sc156_ok:Tryz.f156.body.map tr=some sc156:=by kernel_rfl
theorem fn156:cx.fn 156=some Tryz.f156:=by kernel_rfl
theorem sc156_dst:okS 15 sc156=true:=by kernel_rfl
def sc157r0:List SOp:=[nO (.box 25 (T 0)) 2,
 nO (.assign (.const (.pointer none))) 4]
def sc157r1:List SOp:=[ldO 25 2 10,
 nO (cF 83 #[T 10] #[25]) 11,
 nO (.binOp .eql 36 (T 11) (cI 0) 36) 12,
 nO (cF 158 #[(T 12),(cI 2)] #[4,36]) 13]
def sc157r2:List SOp:=[ldO 25 2 14,
 nO (.build 257 #[(0,(T 14))]) 15,
 nO (.box 257 (T 15)) 16,
 asO 16 5]
def sc157r3:List SOp:=[mvO 5 17,
 faO 25 2 0 18,
 ldO 22 18 19,
 nO (cF 128 #[T 19] #[22]) 20,
 ncO 17 21,
 faO 257 21 0 22,
 faO 25 22 0 23,
 ⟨none,.store 22 (T 23) (T 20),none⟩]
def sc157r4:List (SOp×DK):=[(nO (.move (T 5)) 24,.L 0 3 []),
 (nO (.move (T 5)) 25,.L 0 4 []),
 (nO (.move (T 5)) 26,.L 0 5 []),
 (nO (.fieldAddr 25 (T 2) 1) 27,.L 0 0 []),
 (nO (.load 23 (T 27)) 28,.L 0 0 []),
 (nO (cF 129 #[T 28] #[23]) 29,.A [24,25,26,27,28,29,30,31,33,34] [24,25,26,30,31,33,34]),
 (nO (.fieldAddr 25 (T 2) 2) 30,.L 0 1 []),
 (nO (.load 23 (T 30)) 31,.L 0 1 []),
 (nO (cF 129 #[T 31] #[23]) 32,.A [24,25,26,27,28,29,30,31,32,33,34] [24,25,26,33,34]),
 (nO (.fieldAddr 25 (T 2) 3) 33,.L 0 2 []),
 (nO (.load 23 (T 33)) 34,.L 0 2 []),
 (nO (cF 129 #[T 34] #[23]) 35,.A [24,25,26,27,28,29,30,31,32,33,34,35] [24,25,26]),
 (nO (.nilCheck (T 24)) 36,.L 3 3 []),
 (nO (.fieldAddr 257 (T 36) 0) 37,.L 3 3 []),
 (nO (.fieldAddr 25 (T 37) 1) 38,.L 3 3 []),
 (⟨none,.store 23 (T 38) (T 29),none⟩,.A [24,25,26,27,28,29,30,31,32,33,34,35,36,37,38] [25,26]),
 (nO (.nilCheck (T 25)) 39,.L 4 4 []),
 (nO (.fieldAddr 257 (T 39) 0) 40,.L 4 4 []),
 (nO (.fieldAddr 25 (T 40) 2) 41,.L 4 4 []),
 (⟨none,.store 23 (T 41) (T 32),none⟩,.A [24,25,26,27,28,29,30,31,32,33,34,35,36,37,38,39,40,41] [26]),
 (nO (.nilCheck (T 26)) 42,.L 5 5 []),
 (nO (.fieldAddr 257 (T 42) 0) 43,.L 5 5 []),
 (nO (.fieldAddr 25 (T 43) 3) 44,.L 5 5 []),
 (⟨none,.store 23 (T 44) (T 35),none⟩,.A [24,25,26,27,28,29,30,31,32,33,34,35,36,37,38,39,40,41,42,43,44] [])]
def sc157d4:SC:=.draw sc157r4
theorem sc157d4_x{o rd Q t h d r}:xC cx o rd sc157d4 Q t h d r=xDraw cx o rd Q sc157r4 0 [h] [] [] t h d r:=xC_draw (by kernel_rfl)
def sc157r5:List SOp:=[mvO 1 45,
 nO (.call {callee:=.builtin .len,args:=#[T 45],argTypes:=#[327]}) 46,
 nO (.move (cI 0)) 47]
def sc157r6:List SOp:=[nO (.binOp .lss 3 (T 47) (T 46) 3) 48]
def sc157r7:List SOp:=[nO (.indexAddr 327 (T 45) (T 47)) 49,
 ldO 29 49 50,
 nO (.alloc 29) 7,
 ⟨none,.store 29 (T 7) (T 50),none⟩]
def sc157r8:List SOp:=[ldO 29 7 51,
 nO (.build 29 #[]) 52,
 nO (.binOp .eql 29 (T 51) (T 52) 29) 53,
 mvO 53 54,
 fO 54 (.fieldAddr 29 (T 7) 0) 55,
 fO 54 (.load 3 (T 55)) 56,
 fO 54 (.binOp .geq 3 (T 56) (cI 2) 3) 57,
 fO 54 (.move (T 57)) 58,
 tO 58 (.fieldAddr 29 (T 7) 0) 59,
 tO 58 (.load 3 (T 59)) 60,
 tO 58 (.binOp .lss 3 (T 60) (cI 4096) 3) 61,
 fO 54 (.pick (T 58) (T 61) cN) 62,
 fO 54 (.move (T 62)) 63,
 tO 63 (.fieldAddr 29 (T 7) 1) 64,
 tO 63 (.load 3 (T 64)) 65,
 tO 63 (.binOp .geq 3 (T 65) (cI 1) 3) 66,
 fO 54 (.pick (T 63) (T 66) cN) 67,
 fO 54 (.move (T 67)) 68,
 tO 68 (.fieldAddr 29 (T 7) 1) 69,
 tO 68 (.load 3 (T 69)) 70,
 tO 68 (.binOp .leq 3 (T 70) (cI 2147483647) 3) 71,
 fO 54 (.pick (T 68) (T 71) cN) 72,
 nO (.pick (T 54) cT (T 72)) 73,
 nO (cF 158 #[(T 73),(cI 2)] #[4,36]) 74]
def sc157r9:List SOp:=[nO (.binOp .add 3 (T 47) (cI 1) 3) 75,
 mvO 75 47]
def sc157l10:SC:=(.seq (.reg sc157r6) (.seq (.cond (T 48) .skip (.exit 0)) (.seq (.block 1 (.seq (.reg sc157r7) (.reg sc157r8))) (.reg sc157r9))))
def sc157r11:List SOp:=[mvO 1 76,
 nO (.call {callee:=.builtin .len,args:=#[T 76],argTypes:=#[327]}) 77,
 nO (.move (cI 0)) 78]
def sc157r12:List SOp:=[nO (.binOp .lss 3 (T 78) (T 77) 3) 79]
def sc157r13:List SOp:=[nO (.indexAddr 327 (T 76) (T 78)) 80,
 ldO 29 80 81,
 nO (.alloc 29) 9,
 ⟨none,.store 29 (T 9) (T 81),none⟩]
def sc157r14:List SOp:=[faO 29 9 0 82,
 ldO 3 82 83,
 nO (.binOp .neq 3 (T 83) (cI 0) 3) 84]
def sc157r15:List (SOp×DK):=[(nO (.fieldAddr 29 (T 9) 0) 85,.L 0 0 []),
 (nO (.load 3 (T 85)) 86,.L 0 0 []),
 (nO (.move (T 5)) 87,.L 0 0 []),
 (nO (.nilCheck (T 87)) 88,.L 0 0 []),
 (nO (.fieldAddr 257 (T 88) 0) 89,.L 0 0 []),
 (nO (.fieldAddr 25 (T 89) 0) 90,.L 0 0 []),
 (nO (.load 22 (T 90)) 91,.L 0 0 []),
 (nO (.call {callee:=.builtin .len,args:=#[T 91],argTypes:=#[22]}) 92,.L 0 0 []),
 (nO (.binOp .lss 3 (T 86) (T 92) 3) 93,.L 0 0 []),
 (nO (cF 158 #[(T 93),(cI 8)] #[4,36]) 94,.A [85,86,87,88,89,90,91,92,93,94] [])]
def sc157d15:SC:=.draw sc157r15
def sc157r16:List (SOp×DK):=[(nO (.move (T 5)) 95,.L 0 0 []),
 (nO (.fieldAddr 29 (T 9) 0) 96,.L 0 0 []),
 (nO (.load 3 (T 96)) 97,.L 0 0 []),
 (nO (.move (T 5)) 98,.L 0 0 []),
 (nO (.nilCheck (T 98)) 99,.L 0 0 []),
 (nO (.fieldAddr 257 (T 99) 0) 100,.L 0 0 []),
 (nO (.fieldAddr 25 (T 100) 0) 101,.L 0 0 []),
 (nO (.load 22 (T 101)) 102,.L 0 0 []),
 (nO (.fieldAddr 29 (T 9) 0) 103,.L 0 0 []),
 (nO (.load 3 (T 103)) 104,.L 0 0 []),
 (nO (.indexAddr 22 (T 102) (T 104)) 105,.L 0 0 []),
 (nO (.fieldAddr 62 (T 105) 4) 106,.L 0 0 []),
 (nO (.load 3 (T 106)) 107,.L 0 0 []),
 (nO (cF 232 #[T 95,(T 97),(T 107)] #[245,3,3]) 108,.A [95,96,97,98,99,100,101,102,103,104,105,106,107,108] [])]
def sc157d16:SC:=.draw sc157r16
def sc157r17:List SOp:=[nO (.binOp .add 3 (T 78) (cI 1) 3) 109,
 mvO 109 78]
def sc157l18:SC:=(.seq (.reg sc157r12) (.seq (.cond (T 79) .skip (.exit 2)) (.seq (.block 3 (.seq (.reg sc157r13) (.seq (.reg sc157r14) (.cond (T 84) (.seq sc157d15 sc157d16) .skip)))) (.reg sc157r17))))
def sc157r19:List SOp:=[mvO 5 110,
 asO 110 4]
def sc157:SC:=(.seq (.reg sc157r0) (.seq (.reg sc157r1) (.seq (.reg sc157r2) (.seq (.reg sc157r3) (.seq sc157d4 (.seq (.seq (.reg sc157r5) (.block 0 (.loop sc157l10))) (.seq (.seq (.reg sc157r11) (.block 2 (.loop sc157l18))) (.seq (.reg sc157r19) .ret))))))))
theorem ext157:cx.ext 157=none:=by kernel_rfl
theorem ct157:CT 157 111 sc157 [.tmp 4]:=mkCT (fn:=Tryz.f157) (by kernel_rfl) (by kernel_rfl) rfl rfl (by kernel_rfl)
-- understory/tree.need
def sc158r0:List SOp:=[mvO 0 4,
 nO (.unOp .not 4 (T 4)) 5]
def sc158r1:List SOp:=[mvO 1 6,
 nO (.build 326 #[(0,(T 6))]) 7,
 nO (.makeInterface 326 (T 7)) 8,
 ⟨none,.panic (T 8),none⟩]
def sc158:SC:=(.seq (.reg sc158r0) (.cond (T 5) (.reg sc158r1) .skip))
theorem ext158:cx.ext 158=none:=by kernel_rfl
theorem ct158:CT 158 9 sc158 []:=mkCT (fn:=Tryz.f158) (by kernel_rfl) (by kernel_rfl) rfl rfl (by kernel_rfl)
-- understory/page.Valid
def sc159r0:List SOp:=[nO (.assign cN) 4]
def sc159r1:List SOp:=[mvO 1 7,
 nO (cF 211 #[(T 7),(cI 0),(cI 20)] #[3,3,3]) 8,
 nO (.unOp .not 4 (T 8)) 9,
 mvO 9 10,
 fO 10 (.move (T 0)) 11,
 fO 10 (.call {callee:=.builtin .len,args:=#[T 11],argTypes:=#[59]}) 12,
 fO 10 (.binOp .eql 3 (T 12) (cI 0) 3) 13,
 nO (.pick (T 10) cT (T 13)) 14,
 mvO 14 15,
 fO 15 (.move (T 1)) 16,
 fO 15 (.binOp .gtr 3 (T 16) (cI 0) 3) 17,
 fO 15 (.move (T 17)) 18,
 tO 18 (.move (T 0)) 19,
 tO 18 (.call {callee:=.builtin .len,args:=#[T 19],argTypes:=#[59]}) 20,
 tO 18 (.binOp .lss 3 (T 20) (cI 2) 3) 21,
 tO 18 (.move (T 21)) 22,
 fO 22 (.move (T 0)) 23,
 fO 22 (.indexAddr 59 (T 23) (cI 0)) 24,
 fO 22 (.fieldAddr 64 (T 24) 0) 25,
 fO 22 (.load 9 (T 25)) 26,
 fO 22 (.binOp .neq 9 (T 26) (.const (.string (ByteArray.mk #[]))) 9) 27,
 tO 18 (.pick (T 22) cT (T 27)) 28,
 fO 15 (.pick (T 18) (T 28) cN) 29,
 nO (.pick (T 15) cT (T 29)) 30]
def sc159r2:List SOp:=[nO (.assign cN) 4]
def sc159r3:List SOp:=[mvO 0 31,
 nO (.call {callee:=.builtin .len,args:=#[T 31],argTypes:=#[59]}) 32,
 nO (.move (cI 0)) 33]
def sc159r4:List SOp:=[nO (.binOp .lss 3 (T 33) (T 32) 3) 34]
def sc159r5:List SOp:=[mvO 33 35,
 nO (.indexAddr 59 (T 31) (T 33)) 36,
 ldO 64 36 37,
 nO (.alloc 64) 6,
 asO 35 5,
 ⟨none,.store 64 (T 6) (T 37),none⟩]
def sc159r6:List SOp:=[mvO 1 39,
 nO (.binOp .eql 3 (T 39) (cI 0) 3) 40,
 mvO 40 41,
 tO 41 (.load 64 (T 6)) 42,
 tO 41 (cF 233 #[T 42] #[64]) 43,
 tO 41 (.binOp .eql 328 (T 43) (cI 0) 328) 44,
 nO (.pick (T 41) (T 44) cN) 45,
 asO 45 38]
def sc159r7:List SOp:=[mvO 1 46,
 nO (.binOp .gtr 3 (T 46) (cI 0) 3) 47,
 mvO 47 48,
 tO 48 (.load 64 (T 6)) 49,
 tO 48 (cF 234 #[T 49] #[64]) 50,
 tO 48 (.unOp .not 4 (T 50)) 51,
 tO 48 (.move (T 51)) 52,
 fO 52 (.move (T 5)) 53,
 fO 52 (.binOp .gtr 3 (T 53) (cI 0) 3) 54,
 fO 52 (.move (T 54)) 55,
 tO 55 (.fieldAddr 64 (T 6) 0) 56,
 tO 55 (.load 9 (T 56)) 57,
 tO 55 (.binOp .eql 9 (T 57) (.const (.string (ByteArray.mk #[]))) 9) 58,
 fO 52 (.pick (T 55) (T 58) cN) 59,
 tO 48 (.pick (T 52) cT (T 59)) 60,
 nO (.pick (T 48) (T 60) cN) 61,
 asO 61 38]
def sc159r8:List SOp:=[nO (.assign cN) 4]
def sc159r9:List (SOp×DK):=[(nO (.move (T 5)) 63,.L 0 0 []),
 (nO (.binOp .gtr 3 (T 63) (cI 0) 3) 64,.L 0 0 []),
 (nO (.move (T 64)) 65,.L 0 0 []),
 (tO 65 (.move (T 0)) 66,.L 0 0 []),
 (tO 65 (.move (T 5)) 67,.L 0 0 []),
 (tO 65 (.binOp .sub 3 (T 67) (cI 1) 3) 68,.L 0 0 []),
 (tO 65 (.indexAddr 59 (T 66) (T 68)) 69,.L 0 0 []),
 (tO 65 (.fieldAddr 64 (T 69) 0) 70,.L 0 0 []),
 (tO 65 (.load 9 (T 70)) 71,.L 0 0 []),
 (tO 65 (.fieldAddr 64 (T 6) 0) 72,.L 0 0 []),
 (tO 65 (.load 9 (T 72)) 73,.L 0 0 []),
 (tO 65 (cF 235 #[T 71,(T 73)] #[9,9]) 74,.A [63,64,65,66,67,68,69,70,71,72,73,74] []),
 (tO 65 (.binOp .geq 3 (T 74) (cI 0) 3) 75,.L 1 1 []),
 (nO (.pick (T 65) (T 75) cN) 76,.L 1 1 []),
 (nO (.assign (T 76)) 62,.L 1 1 [])]
def sc159d9:SC:=.draw sc159r9
theorem sc159d9_x{o rd Q t h d r}:xC cx o rd sc159d9 Q t h d r=xDraw cx o rd Q sc159r9 0 [h] [] [] t h d r:=xC_draw (by kernel_rfl)
def sc159r10:List SOp:=[nO (.assign cN) 4]
def sc159r11:List SOp:=[nO (.binOp .add 3 (T 33) (cI 1) 3) 77,
 mvO 77 33]
def sc159l12:SC:=(.seq (.reg sc159r4) (.seq (.cond (T 34) .skip (.exit 0)) (.seq (.block 1 (.seq (.reg sc159r5) (.block 2 (.seq (.seq (.reg sc159r6) (.cond (T 38) .skip (.reg sc159r7))) (.cond (T 38) (.seq (.reg sc159r8) .ret) (.seq sc159d9 (.cond (T 62) (.seq (.reg sc159r10) .ret) .skip))))))) (.reg sc159r11))))
def sc159r13:List SOp:=[nO (.assign cT) 4]
def sc159:SC:=(.seq (.reg sc159r0) (.seq (.seq (.reg sc159r1) (.cond (T 30) (.seq (.reg sc159r2) .ret) .skip)) (.seq (.seq (.reg sc159r3) (.block 0 (.loop sc159l12))) (.seq (.reg sc159r13) .ret))))
theorem ext159:cx.ext 159=none:=by kernel_rfl
theorem ct159:CT 159 78 sc159 [.tmp 4]:=mkCT (fn:=Tryz.f159) (by kernel_rfl) (by kernel_rfl) rfl rfl (by kernel_rfl)
-- (*understory/cursor.walker).stands
def sc169r0:List SOp:=[nO (.box 32 (T 1)) 3]
def sc169r1:List SOp:=[faO 32 3 0 11,
 faO 29 11 0 12,
 ldO 3 12 13,
 asO 13 4,
 nO (.assign (.const (.string (ByteArray.mk #[])))) 5]
def sc169r2:List SOp:=[faO 32 3 3 14,
 ldO 30 14 15,
 nO (.call {callee:=.builtin .len,args:=#[T 15],argTypes:=#[30]}) 16,
 nO (.move (cI 0)) 17]
def sc169r3:List SOp:=[nO (.binOp .lss 3 (T 17) (T 16) 3) 18]
def sc169r4:List SOp:=[mvO 17 19,
 nO (.indexAddr 30 (T 15) (T 17)) 20,
 ldO 93 20 21,
 nO (.alloc 93) 7,
 asO 19 6,
 ⟨none,.store 93 (T 7) (T 21),none⟩]
def sc169r5:List (SOp×DK):=[(nO (.move (T 0)) 23,.L 0 0 []),
 (nO (.nilCheck (T 23)) 24,.L 0 0 []),
 (nO (.fieldAddr 148 (T 24) 0) 25,.L 0 0 []),
 (nO (.load 25 (T 25)) 26,.L 0 0 []),
 (nO (.fieldAddr 93 (T 7) 0) 27,.L 0 0 []),
 (nO (.load 3 (T 27)) 28,.L 0 0 []),
 (nO (cF 200 #[T 26,(T 28)] #[25,3]) 29,.A [23,24,25,26,27,28,29] []),
 (nO (.move (T 29)) 22,.L 1 1 []),
 (nO (.extract (T 22) 0) 30,.L 1 1 []),
 (nO (.extract (T 22) 1) 31,.L 1 1 []),
 (nO (.extract (T 22) 2) 32,.L 1 1 []),
 (nO (.assign (T 30)) 8,.L 1 1 []),
 (nO (.assign (T 31)) 9,.L 1 1 []),
 (nO (.assign (T 32)) 10,.L 1 1 [])]
def sc169d5:SC:=.draw sc169r5
theorem sc169d5_x{o rd Q t h d r}:xC cx o rd sc169d5 Q t h d r=xDraw cx o rd Q sc169r5 0 [h] [] [] t h d r:=xC_draw (by kernel_rfl)
def sc169r6:List SOp:=[mvO 10 33,
 nO (.binOp .neq 36 (T 33) (cI 0) 36) 34,
 mvO 34 35,
 fO 35 (.fieldAddr 93 (T 7) 0) 36,
 fO 35 (.load 3 (T 36)) 37,
 fO 35 (.move (T 4)) 38,
 fO 35 (.binOp .neq 3 (T 37) (T 38) 3) 39,
 nO (.pick (T 35) cT (T 39)) 40,
 mvO 40 41,
 fO 41 (.move (T 9)) 42,
 fO 41 (.fieldAddr 32 (T 3) 3) 43,
 fO 41 (.load 30 (T 43)) 44,
 fO 41 (.call {callee:=.builtin .len,args:=#[T 44],argTypes:=#[30]}) 45,
 fO 41 (.binOp .sub 3 (T 45) (cI 1) 3) 46,
 fO 41 (.move (T 6)) 47,
 fO 41 (.binOp .sub 3 (T 46) (T 47) 3) 48,
 fO 41 (.binOp .neq 3 (T 42) (T 48) 3) 49,
 nO (.pick (T 41) cT (T 49)) 50,
 mvO 50 51,
 fO 51 (.fieldAddr 93 (T 7) 1) 52,
 fO 51 (.load 3 (T 52)) 53,
 fO 51 (.binOp .lss 3 (T 53) (cI 0) 3) 54,
 nO (.pick (T 51) cT (T 54)) 55,
 mvO 55 56,
 fO 56 (.fieldAddr 93 (T 7) 1) 57,
 fO 56 (.load 3 (T 57)) 58,
 fO 56 (.move (T 8)) 59,
 fO 56 (.call {callee:=.builtin .len,args:=#[T 59],argTypes:=#[59]}) 60,
 fO 56 (.binOp .geq 3 (T 58) (T 60) 3) 61,
 nO (.pick (T 56) cT (T 61)) 62]
def sc169r7:List SOp:=[nO (cF 69 #[(cI 6)] #[36]) 63]
def sc169r8:List (SOp×DK):=[(nO (.move (T 8)) 64,.L 0 0 []),
 (nO (.fieldAddr 93 (T 7) 1) 65,.L 0 0 []),
 (nO (.load 3 (T 65)) 66,.L 0 0 []),
 (nO (.indexAddr 59 (T 64) (T 66)) 67,.L 0 0 []),
 (nO (.fieldAddr 64 (T 67) 4) 68,.L 0 0 []),
 (nO (.load 3 (T 68)) 69,.L 0 0 []),
 (nO (.move (T 8)) 70,.L 0 0 []),
 (nO (.fieldAddr 93 (T 7) 1) 71,.L 0 0 []),
 (nO (.load 3 (T 71)) 72,.L 0 0 []),
 (nO (.indexAddr 59 (T 70) (T 72)) 73,.L 0 0 []),
 (nO (.fieldAddr 64 (T 73) 0) 74,.L 0 0 []),
 (nO (.load 9 (T 74)) 75,.L 0 0 []),
 (nO (.assign (T 69)) 4,.L 0 0 []),
 (nO (.assign (T 75)) 5,.L 0 0 [])]
def sc169d8:SC:=.draw sc169r8
theorem sc169d8_x{o rd Q t h d r}:xC cx o rd sc169d8 Q t h d r=xDraw cx o rd Q sc169r8 0 [h] [] [] t h d r:=xC_draw (by kernel_rfl)
def sc169r9:List SOp:=[nO (.binOp .add 3 (T 17) (cI 1) 3) 76,
 mvO 76 17]
def sc169l10:SC:=(.seq (.reg sc169r3) (.seq (.cond (T 18) .skip (.exit 0)) (.seq (.block 1 (.seq (.reg sc169r4) (.seq sc169d5 (.seq (.seq (.reg sc169r6) (.cond (T 62) (.reg sc169r7) .skip)) sc169d8)))) (.reg sc169r9))))
def sc169r11:List SOp:=[faO 32 3 3 77,
 ldO 30 77 78,
 nO (.call {callee:=.builtin .len,args:=#[T 78],argTypes:=#[30]}) 79,
 nO (.binOp .eql 3 (T 79) (cI 0) 3) 80,
 mvO 80 81,
 fO 81 (.move (T 5)) 82,
 fO 81 (.fieldAddr 32 (T 3) 2) 83,
 fO 81 (.load 9 (T 83)) 84,
 fO 81 (.binOp .neq 9 (T 82) (T 84) 9) 85,
 nO (.pick (T 81) cT (T 85)) 86]
def sc169r12:List SOp:=[nO (cF 69 #[(cI 6)] #[36]) 87]
def sc169:SC:=(.seq (.reg sc169r0) (.seq (.reg sc169r1) (.seq (.seq (.reg sc169r2) (.block 0 (.loop sc169l10))) (.seq (.reg sc169r11) (.cond (T 86) (.reg sc169r12) .skip)))))
theorem ext169:cx.ext 169=none:=by kernel_rfl
theorem ct169:CT 169 88 sc169 []:=mkCT (fn:=Tryz.f169) (by kernel_rfl) (by kernel_rfl) rfl rfl (by kernel_rfl)
-- understory/understoryref07.opened
def sc170r0:List SOp:=[nO (.box 25 (T 0)) 1,
 nO (.assign (.const (.pointer none))) 2]
def sc170r1:List SOp:=[ldO 25 1 4,
 nO (.build 164 #[(0,(T 4))]) 5,
 nO (.box 164 (T 5)) 6,
 asO 6 3]
def sc170r2:List SOp:=[mvO 3 7,
 ldO 25 1 8,
 nO (cF 40 #[T 8] #[25]) 9,
 nO (cF 89 #[(T 7),(T 9),(cI 2)] #[155,4,36]) 10]
def sc170r3:List SOp:=[mvO 3 11,
 nO (.buildSlice 22 0 #[]) 12,
 faO 25 1 0 13,
 ldO 22 13 14,
 nO (.call {callee:=.builtin .append,args:=#[T 12,(T 14)],argTypes:=#[22,22]}) 15,
 ncO 11 16,
 faO 164 16 0 17,
 faO 25 17 0 18,
 ⟨none,.store 22 (T 18) (T 15),none⟩]
def sc170r4:List SOp:=[mvO 3 19,
 asO 19 2]
def sc170:SC:=(.seq (.reg sc170r0) (.seq (.reg sc170r1) (.seq (.seq (.reg sc170r2) (.cond (T 10) (.reg sc170r3) .skip)) (.seq (.reg sc170r4) .ret))))
theorem ext170:cx.ext 170=none:=by kernel_rfl
theorem ct170:CT 170 20 sc170 [.tmp 2]:=mkCT (fn:=Tryz.f170) (by kernel_rfl) (by kernel_rfl) rfl rfl (by kernel_rfl)
-- (*understory/understoryref07.Work).level
def sc171r0:List SOp:=[nO (.assign (cI 0)) 4]
def sc171r1:List SOp:=[mvO 1 5,
 nO (.binOp .lss 3 (T 5) (cI 0) 3) 6,
 mvO 6 7,
 fO 7 (.move (T 1)) 8,
 fO 7 (.move (T 0)) 9,
 fO 7 (.nilCheck (T 9)) 10,
 fO 7 (.fieldAddr 164 (T 10) 0) 11,
 fO 7 (.fieldAddr 25 (T 11) 0) 12,
 fO 7 (.load 22 (T 12)) 13,
 fO 7 (.call {callee:=.builtin .len,args:=#[T 13],argTypes:=#[22]}) 14,
 fO 7 (.binOp .geq 3 (T 8) (T 14) 3) 15,
 nO (.pick (T 7) cT (T 15)) 16]
def sc171r2:List SOp:=[nO (.assign (.const (.int .i64 (-1)))) 4]
def sc171r3:List SOp:=[mvO 0 17,
 ncO 17 18,
 faO 164 18 0 19,
 faO 25 19 0 20,
 ldO 22 20 21,
 mvO 1 22,
 nO (.indexAddr 22 (T 21) (T 22)) 23,
 faO 62 23 4 24,
 ldO 3 24 25,
 asO 25 4]
def sc171:SC:=(.seq (.reg sc171r0) (.seq (.seq (.reg sc171r1) (.cond (T 16) (.seq (.reg sc171r2) .ret) .skip)) (.seq (.reg sc171r3) .ret)))
theorem ext171:cx.ext 171=none:=by kernel_rfl
theorem ct171:CT 171 26 sc171 [.tmp 4]:=mkCT (fn:=Tryz.f171) (by kernel_rfl) (by kernel_rfl) rfl rfl (by kernel_rfl)
-- (*understory/understoryref07.Work).node
def sc172r0:List SOp:=[nO (.assign (.const (.slice none 0 0))) 6]
def sc172r1:List SOp:=[mvO 0 7,
 ncO 7 8,
 faO 164 8 1 9,
 ldO 36 9 10,
 nO (.binOp .neq 36 (T 10) (cI 0) 36) 11,
 mvO 11 12,
 fO 12 (.move (T 0)) 13,
 fO 12 (.move (T 0)) 14,
 fO 12 (.nilCheck (T 14)) 15,
 fO 12 (.fieldAddr 164 (T 15) 0) 16,
 fO 12 (.load 25 (T 16)) 17,
 fO 12 (.move (T 1)) 18,
 fO 12 (.move (T 2)) 19,
 fO 12 (cF 244 #[T 17,(T 18),(T 19)] #[25,3,3]) 20,
 fO 12 (cF 89 #[(T 13),(T 20),(cI 8)] #[155,4,36]) 21,
 fO 12 (.unOp .not 4 (T 21)) 22,
 nO (.pick (T 12) cT (T 22)) 23]
def sc172r2:List SOp:=[nO (.assign (.const (.slice none 0 0))) 6]
def sc172r3:List SOp:=[mvO 0 24,
 ncO 24 25,
 faO 164 25 0 26,
 faO 25 26 0 27,
 ldO 22 27 28,
 mvO 1 29,
 nO (.indexAddr 22 (T 28) (T 29)) 30,
 faO 62 30 6 31,
 ldO 59 31 32,
 asO 32 6]
def sc172:SC:=(.seq (.reg sc172r0) (.seq (.seq (.reg sc172r1) (.cond (T 23) (.seq (.reg sc172r2) .ret) .skip)) (.seq (.reg sc172r3) .ret)))
theorem ext172:cx.ext 172=none:=by kernel_rfl
theorem ct172:CT 172 33 sc172 [.tmp 6]:=mkCT (fn:=Tryz.f172) (by kernel_rfl) (by kernel_rfl) rfl rfl (by kernel_rfl)
-- (*understory/understoryref07.Work).fail
def sc176r0:List SOp:=[mvO 0 4,
 ncO 4 5,
 faO 164 5 1 6,
 ldO 36 6 7,
 nO (.binOp .eql 36 (T 7) (cI 0) 36) 8]
def sc176r1:List SOp:=[mvO 0 9,
 mvO 1 10,
 ncO 9 11,
 faO 164 11 1 12,
 ⟨none,.store 36 (T 12) (T 10),none⟩]
def sc176:SC:=(.seq (.reg sc176r0) (.cond (T 8) (.reg sc176r1) .skip))
theorem ext176:cx.ext 176=none:=by kernel_rfl
theorem ct176:CT 176 13 sc176 []:=mkCT (fn:=Tryz.f176) (by kernel_rfl) (by kernel_rfl) rfl rfl (by kernel_rfl)
-- understory/tree.Node
def sc200r0:List SOp:=[nO (.box 25 (T 0)) 2,
 nO (.assign (.const (.slice none 0 0))) 4,
 nO (.assign (cI 0)) 5,
 nO (.alloc 36) 6]
def sc200r1:List SOp:=[⟨none,.defer {callee:=.value (.func 156),args:=#[T 6],argTypes:=#[88]},none⟩]
def sc200r2:List SOp:=[ldO 25 2 9,
 nO (cF 157 #[(T 9),(.const (.slice none 0 0))] #[25,327]) 10,
 asO 10 7]
def sc200r3:List SOp:=[mvO 1 11,
 nO (.binOp .geq 3 (T 11) (cI 2) 3) 12,
 mvO 12 13,
 tO 13 (.move (T 1)) 14,
 tO 13 (.move (T 7)) 15,
 tO 13 (.nilCheck (T 15)) 16,
 tO 13 (.fieldAddr 257 (T 16) 0) 17,
 tO 13 (.fieldAddr 25 (T 17) 0) 18,
 tO 13 (.load 22 (T 18)) 19,
 tO 13 (.call {callee:=.builtin .len,args:=#[T 19],argTypes:=#[22]}) 20,
 tO 13 (.binOp .lss 3 (T 14) (T 20) 3) 21,
 nO (.pick (T 13) (T 21) cN) 22,
 nO (cF 158 #[(T 22),(cI 8)] #[4,36]) 23]
def sc200r4:List SOp:=[mvO 7 24,
 ncO 24 25,
 faO 257 25 0 26,
 faO 25 26 0 27,
 ldO 22 27 28,
 mvO 1 29,
 nO (.indexAddr 22 (T 28) (T 29)) 30,
 faO 62 30 4 31,
 ldO 3 31 32,
 asO 32 8]
def sc200r5:List SOp:=[nO (.buildSlice 59 0 #[]) 33,
 mvO 7 34,
 mvO 1 35,
 mvO 8 36,
 nO (cF 232 #[T 34,(T 35),(T 36)] #[245,3,3]) 37,
 nO (.call {callee:=.builtin .append,args:=#[T 33,(T 37)],argTypes:=#[59,59]}) 38,
 mvO 8 39,
 asO 38 4,
 asO 39 5,
 ⟨none,.store 36 (T 6) (cI 0),none⟩]
def sc200:SC:=(.seq (.reg sc200r0) (.seq (.reg sc200r1) (.seq (.reg sc200r2) (.seq (.reg sc200r3) (.seq (.reg sc200r4) (.seq (.reg sc200r5) .ret))))))
theorem sc200_ok:Tryz.f200.body.map tr=some sc200:=by kernel_rfl
theorem fn200:cx.fn 200=some Tryz.f200:=by kernel_rfl
theorem ext200:cx.ext 200=none:=by kernel_rfl
theorem sc200_dst:okS 40 sc200=true:=by kernel_rfl
def sc202r0:List SOp:=[nO (.assign cN) 4]
def sc202r1:List SOp:=[mvO 0 5,
 nO (cF 264 #[T 5] #[3]) 6,
 mvO 6 7,
 tO 7 (.move (T 1)) 8,
 tO 7 (cF 264 #[T 8] #[3]) 9,
 tO 7 (.unOp .not 4 (T 9)) 10,
 nO (.pick (T 7) (T 10) cN) 11,
 mvO 11 12,
 fO 12 (.move (T 0)) 13,
 fO 12 (.move (T 1)) 14,
 fO 12 (.binOp .lss 3 (T 13) (T 14) 3) 15,
 nO (.pick (T 12) cT (T 15)) 16,
 asO 16 4]
def sc202:SC:=(.seq (.reg sc202r0) (.seq (.reg sc202r1) .ret))
theorem ext202:cx.ext 202=none:=by kernel_rfl
theorem ct202:CT 202 17 sc202 [.tmp 4]:=mkCT (fn:=Tryz.f202) (by kernel_rfl) (by kernel_rfl) rfl rfl (by kernel_rfl)
-- slices.isNaN[int]
def sc203r0:List SOp:=[nO (.assign cN) 2]
def sc203r1:List SOp:=[mvO 0 3,
 mvO 0 4,
 nO (.binOp .neq 3 (T 3) (T 4) 3) 5,
 asO 5 2]
def sc203:SC:=(.seq (.reg sc203r0) (.seq (.reg sc203r1) .ret))
theorem ext203:cx.ext 203=none:=by kernel_rfl
theorem ct203:CT 203 6 sc203 [.tmp 2]:=mkCT (fn:=Tryz.f203) (by kernel_rfl) (by kernel_rfl) rfl rfl (by kernel_rfl)
-- understory/page.numbered
def sc210r0:List SOp:=[nO (.assign cN) 2]
def sc210r1:List SOp:=[mvO 0 3,
 nO (cF 211 #[(T 3),(cI 2),(cI 4095)] #[3,3,3]) 4,
 asO 4 2]
def sc210:SC:=(.seq (.reg sc210r0) (.seq (.reg sc210r1) .ret))
theorem ext210:cx.ext 210=none:=by kernel_rfl
theorem ct210:CT 210 5 sc210 [.tmp 2]:=mkCT (fn:=Tryz.f210) (by kernel_rfl) (by kernel_rfl) rfl rfl (by kernel_rfl)
-- understory/page.within
def sc211r0:List SOp:=[nO (.assign cN) 6]
def sc211r1:List SOp:=[mvO 1 7,
 mvO 0 8,
 nO (.binOp .leq 3 (T 7) (T 8) 3) 9,
 mvO 9 10,
 tO 10 (.move (T 0)) 11,
 tO 10 (.move (T 2)) 12,
 tO 10 (.binOp .leq 3 (T 11) (T 12) 3) 13,
 nO (.pick (T 10) (T 13) cN) 14,
 asO 14 6]
def sc211:SC:=(.seq (.reg sc211r0) (.seq (.reg sc211r1) .ret))
theorem ext211:cx.ext 211=none:=by kernel_rfl
theorem ct211:CT 211 15 sc211 [.tmp 6]:=mkCT (fn:=Tryz.f211) (by kernel_rfl) (by kernel_rfl) rfl rfl (by kernel_rfl)
-- understory/page.Fits
def sc212r0:List SOp:=[nO (.assign cN) 4]
def sc212r1:List SOp:=[mvO 0 7,
 mvO 1 8,
 nO (cF 159 #[T 7,(T 8)] #[59,3]) 9,
 nO (.unOp .not 4 (T 9)) 10]
def sc212r2:List SOp:=[nO (.assign cN) 4]
def sc212r3:List SOp:=[mvO 0 12,
 mvO 1 13,
 nO (cF 273 #[T 12,(T 13)] #[59,3]) 14,
 mvO 14 11,
 nO (.extract (T 11) 0) 15,
 nO (.extract (T 11) 1) 16,
 asO 15 5,
 asO 16 6]
def sc212r4:List SOp:=[mvO 5 17,
 nO (.binOp .leq 3 (T 17) (cI 496) 3) 18,
 asO 18 4]
def sc212:SC:=(.seq (.reg sc212r0) (.seq (.seq (.reg sc212r1) (.cond (T 10) (.seq (.reg sc212r2) .ret) .skip)) (.seq (.reg sc212r3) (.seq (.reg sc212r4) .ret))))
theorem ext212:cx.ext 212=none:=by kernel_rfl
theorem ct212:CT 212 19 sc212 [.tmp 4]:=mkCT (fn:=Tryz.f212) (by kernel_rfl) (by kernel_rfl) rfl rfl (by kernel_rfl)
-- understory/page.plain
def sc213r0:List SOp:=[nO (.box 62 (T 0)) 1,
 nO (.assign cN) 2]
def sc213r1:List SOp:=[faO 62 1 3 3,
 ldO 3 3 4,
 nO (.binOp .eql 3 (T 4) (cI 0) 3) 5,
 mvO 5 6,
 tO 6 (.fieldAddr 62 (T 1) 4) 7,
 tO 6 (.load 3 (T 7)) 8,
 tO 6 (.binOp .eql 3 (T 8) (cI 0) 3) 9,
 nO (.pick (T 6) (T 9) cN) 10,
 mvO 10 11,
 tO 11 (.fieldAddr 62 (T 1) 5) 12,
 tO 11 (.load 4 (T 12)) 13,
 tO 11 (.unOp .not 4 (T 13)) 14,
 nO (.pick (T 11) (T 14) cN) 15,
 mvO 15 16,
 tO 16 (.fieldAddr 62 (T 1) 6) 17,
 tO 16 (.load 59 (T 17)) 18,
 tO 16 (.call {callee:=.builtin .len,args:=#[T 18],argTypes:=#[59]}) 19,
 tO 16 (.binOp .eql 3 (T 19) (cI 0) 3) 20,
 nO (.pick (T 16) (T 20) cN) 21,
 asO 21 2]
def sc213:SC:=(.seq (.reg sc213r0) (.seq (.reg sc213r1) .ret))
theorem ext213:cx.ext 213=none:=by kernel_rfl
theorem ct213:CT 213 22 sc213 [.tmp 2]:=mkCT (fn:=Tryz.f213) (by kernel_rfl) (by kernel_rfl) rfl rfl (by kernel_rfl)
-- understory/page.linked
def sc214r0:List SOp:=[nO (.assign cN) 2]
def sc214r1:List SOp:=[mvO 0 3,
 nO (.binOp .eql 3 (T 3) (cI 0) 3) 4,
 mvO 4 5,
 fO 5 (.move (T 0)) 6,
 fO 5 (cF 210 #[T 6] #[3]) 7,
 nO (.pick (T 5) cT (T 7)) 8,
 asO 8 2]
def sc214:SC:=(.seq (.reg sc214r0) (.seq (.reg sc214r1) .ret))
theorem ext214:cx.ext 214=none:=by kernel_rfl
theorem ct214:CT 214 9 sc214 [.tmp 2]:=mkCT (fn:=Tryz.f214) (by kernel_rfl) (by kernel_rfl) rfl rfl (by kernel_rfl)
-- understory/page.freed
def sc215r0:List SOp:=[nO (.assign cN) 2]
def sc215r1:List SOp:=[mvO 0 7,
 nO (.call {callee:=.builtin .len,args:=#[T 7],argTypes:=#[60]}) 8,
 nO (.move (cI 0)) 9]
def sc215r2:List SOp:=[nO (.binOp .lss 3 (T 9) (T 8) 3) 10]
def sc215r3:List SOp:=[mvO 9 11,
 nO (.indexAddr 60 (T 7) (T 9)) 12,
 ldO 375 12 13,
 nO (.alloc 375) 4,
 asO 11 3,
 ⟨none,.store 375 (T 4) (T 13),none⟩]
def sc215r4:List (SOp×DK):=[(nO (.fieldAddr 375 (T 4) 0) 14,.L 0 0 []),
 (nO (.load 3 (T 14)) 15,.L 0 0 []),
 (nO (cF 211 #[(T 15),(cI 0),(cI 1099511627776)] #[3,3,3]) 16,.A [14,15,16] []),
 (nO (.unOp .not 4 (T 16)) 17,.L 1 1 []),
 (nO (.move (T 17)) 18,.L 1 1 []),
 (fO 18 (.fieldAddr 375 (T 4) 1) 19,.L 1 1 []),
 (fO 18 (.load 23 (T 19)) 20,.L 1 1 []),
 (fO 18 (.call {callee:=.builtin .len,args:=#[T 20],argTypes:=#[23]}) 21,.L 1 1 []),
 (fO 18 (.binOp .eql 3 (T 21) (cI 0) 3) 22,.L 1 1 []),
 (nO (.pick (T 18) cT (T 22)) 23,.L 1 1 []),
 (nO (.move (T 23)) 24,.L 1 1 []),
 (fO 24 (.move (T 3)) 25,.L 1 1 []),
 (fO 24 (.binOp .gtr 3 (T 25) (cI 0) 3) 26,.L 1 1 []),
 (fO 24 (.move (T 26)) 27,.L 1 1 []),
 (tO 27 (.move (T 0)) 28,.L 1 1 []),
 (tO 27 (.move (T 3)) 29,.L 1 1 []),
 (tO 27 (.binOp .sub 3 (T 29) (cI 1) 3) 30,.L 1 1 []),
 (tO 27 (.indexAddr 60 (T 28) (T 30)) 31,.L 1 1 []),
 (tO 27 (.fieldAddr 375 (T 31) 0) 32,.L 1 1 []),
 (tO 27 (.load 3 (T 32)) 33,.L 1 1 []),
 (tO 27 (.fieldAddr 375 (T 4) 0) 34,.L 1 1 []),
 (tO 27 (.load 3 (T 34)) 35,.L 1 1 []),
 (tO 27 (.binOp .geq 3 (T 33) (T 35) 3) 36,.L 1 1 []),
 (fO 24 (.pick (T 27) (T 36) cN) 37,.L 1 1 []),
 (nO (.pick (T 24) cT (T 37)) 38,.L 1 1 [])]
def sc215d4:SC:=.draw sc215r4
theorem sc215d4_x{o rd Q t h d r}:xC cx o rd sc215d4 Q t h d r=xDraw cx o rd Q sc215r4 0 [h] [] [] t h d r:=xC_draw (by kernel_rfl)
def sc215r5:List SOp:=[nO (.assign cN) 2]
def sc215r6:List SOp:=[faO 375 4 1 39,
 ldO 23 39 40,
 nO (.call {callee:=.builtin .len,args:=#[T 40],argTypes:=#[23]}) 41,
 nO (.move (cI 0)) 42]
def sc215r7:List SOp:=[nO (.binOp .lss 3 (T 42) (T 41) 3) 43]
def sc215r8:List SOp:=[mvO 42 44,
 nO (.indexAddr 23 (T 40) (T 42)) 45,
 ldO 3 45 46,
 asO 44 5,
 asO 46 6]
def sc215r9:List SOp:=[mvO 6 47,
 nO (cF 210 #[T 47] #[3]) 48,
 nO (.unOp .not 4 (T 48)) 49,
 mvO 49 50,
 fO 50 (.move (T 5)) 51,
 fO 50 (.binOp .gtr 3 (T 51) (cI 0) 3) 52,
 fO 50 (.move (T 52)) 53,
 tO 53 (.fieldAddr 375 (T 4) 1) 54,
 tO 53 (.load 23 (T 54)) 55,
 tO 53 (.move (T 5)) 56,
 tO 53 (.binOp .sub 3 (T 56) (cI 1) 3) 57,
 tO 53 (.indexAddr 23 (T 55) (T 57)) 58,
 tO 53 (.load 3 (T 58)) 59,
 tO 53 (.move (T 6)) 60,
 tO 53 (.binOp .geq 3 (T 59) (T 60) 3) 61,
 fO 50 (.pick (T 53) (T 61) cN) 62,
 nO (.pick (T 50) cT (T 62)) 63]
def sc215r10:List SOp:=[nO (.assign cN) 2]
def sc215r11:List SOp:=[nO (.binOp .add 3 (T 42) (cI 1) 3) 64,
 mvO 64 42]
def sc215l12:SC:=(.seq (.reg sc215r7) (.seq (.cond (T 43) .skip (.exit 2)) (.seq (.block 3 (.seq (.reg sc215r8) (.seq (.reg sc215r9) (.cond (T 63) (.seq (.reg sc215r10) .ret) .skip)))) (.reg sc215r11))))
def sc215r13:List SOp:=[nO (.binOp .add 3 (T 9) (cI 1) 3) 65,
 mvO 65 9]
def sc215l14:SC:=(.seq (.reg sc215r2) (.seq (.cond (T 10) .skip (.exit 0)) (.seq (.block 1 (.seq (.reg sc215r3) (.seq (.seq sc215d4 (.cond (T 38) (.seq (.reg sc215r5) .ret) .skip)) (.seq (.reg sc215r6) (.block 2 (.loop sc215l12)))))) (.reg sc215r13))))
def sc215r15:List SOp:=[nO (.assign cT) 2]
def sc215:SC:=(.seq (.reg sc215r0) (.seq (.seq (.reg sc215r1) (.block 0 (.loop sc215l14))) (.seq (.reg sc215r15) .ret)))
theorem ext215:cx.ext 215=none:=by kernel_rfl
theorem ct215:CT 215 66 sc215 [.tmp 2]:=mkCT (fn:=Tryz.f215) (by kernel_rfl) (by kernel_rfl) rfl rfl (by kernel_rfl)
-- understory/page.listed
def sc216r0:List SOp:=[nO (.assign (cI 0)) 2]
def sc216r1:List SOp:=[nO (.assign (cI 6)) 3]
def sc216r2:List SOp:=[mvO 0 6,
 nO (.call {callee:=.builtin .len,args:=#[T 6],argTypes:=#[60]}) 7,
 nO (.move (cI 0)) 8]
def sc216r3:List SOp:=[nO (.binOp .lss 3 (T 8) (T 7) 3) 9]
def sc216r4:List SOp:=[nO (.indexAddr 60 (T 6) (T 8)) 10,
 ldO 375 10 11,
 nO (.alloc 375) 5,
 ⟨none,.store 375 (T 5) (T 11),none⟩]
def sc216r5:List SOp:=[mvO 3 12,
 faO 375 5 1 13,
 ldO 23 13 14,
 nO (.call {callee:=.builtin .len,args:=#[T 14],argTypes:=#[23]}) 15,
 nO (.binOp .mul 3 (cI 4) (T 15) 3) 16,
 nO (.binOp .add 3 (cI 8) (T 16) 3) 17,
 nO (.binOp .add 3 (T 12) (T 17) 3) 18,
 asO 18 3]
def sc216r6:List SOp:=[nO (.binOp .add 3 (T 8) (cI 1) 3) 19,
 mvO 19 8]
def sc216l7:SC:=(.seq (.reg sc216r3) (.seq (.cond (T 9) .skip (.exit 0)) (.seq (.block 1 (.seq (.reg sc216r4) (.reg sc216r5))) (.reg sc216r6))))
def sc216r8:List SOp:=[mvO 3 20,
 asO 20 2]
def sc216:SC:=(.seq (.reg sc216r0) (.seq (.reg sc216r1) (.seq (.seq (.reg sc216r2) (.block 0 (.loop sc216l7))) (.seq (.reg sc216r8) .ret))))
theorem ext216:cx.ext 216=none:=by kernel_rfl
theorem ct216:CT 216 21 sc216 [.tmp 2]:=mkCT (fn:=Tryz.f216) (by kernel_rfl) (by kernel_rfl) rfl rfl (by kernel_rfl)
-- (*understory/tree.work).node
def sc232r0:List SOp:=[nO (.assign (.const (.slice none 0 0))) 6]
def sc232r1:List SOp:=[mvO 1 9,
 nO (.binOp .geq 3 (T 9) (cI 2) 3) 10,
 mvO 10 11,
 tO 11 (.move (T 1)) 12,
 tO 11 (.move (T 0)) 13,
 tO 11 (.nilCheck (T 13)) 14,
 tO 11 (.fieldAddr 257 (T 14) 0) 15,
 tO 11 (.fieldAddr 25 (T 15) 0) 16,
 tO 11 (.load 22 (T 16)) 17,
 tO 11 (.call {callee:=.builtin .len,args:=#[T 17],argTypes:=#[22]}) 18,
 tO 11 (.binOp .lss 3 (T 12) (T 18) 3) 19,
 nO (.pick (T 11) (T 19) cN) 20,
 mvO 20 21,
 tO 21 (.move (T 0)) 22,
 tO 21 (.nilCheck (T 22)) 23,
 tO 21 (.fieldAddr 257 (T 23) 0) 24,
 tO 21 (.fieldAddr 25 (T 24) 1) 25,
 tO 21 (.load 23 (T 25)) 26,
 tO 21 (.move (T 1)) 27,
 tO 21 (cF 274 #[T 26,(T 27)] #[23,3]) 28,
 tO 21 (.unOp .not 4 (T 28)) 29,
 nO (.pick (T 21) (T 29) cN) 30,
 nO (cF 158 #[(T 30),(cI 8)] #[4,36]) 31]
def sc232r2:List SOp:=[mvO 0 32,
 ncO 32 33,
 faO 257 33 0 34,
 faO 25 34 0 35,
 ldO 22 35 36,
 mvO 1 37,
 nO (.indexAddr 22 (T 36) (T 37)) 38,
 ldO 62 38 39,
 nO (.alloc 62) 7,
 ⟨none,.store 62 (T 7) (T 39),none⟩]
def sc232r3:List SOp:=[nO (.assign (cI 2)) 8]
def sc232r4:List SOp:=[mvO 2 40,
 nO (.binOp .eql 3 (T 40) (cI 0) 3) 41]
def sc232r5:List SOp:=[nO (.assign (cI 1)) 8]
def sc232r6:List SOp:=[faO 62 7 1 42,
 ldO 3 42 43,
 mvO 1 44,
 nO (.binOp .eql 3 (T 43) (T 44) 3) 45,
 mvO 45 46,
 tO 46 (.fieldAddr 62 (T 7) 0) 47,
 tO 46 (.load 3 (T 47)) 48,
 tO 46 (.move (T 8)) 49,
 tO 46 (.binOp .eql 3 (T 48) (T 49) 3) 50,
 nO (.pick (T 46) (T 50) cN) 51,
 mvO 51 52,
 tO 52 (.fieldAddr 62 (T 7) 4) 53,
 tO 52 (.load 3 (T 53)) 54,
 tO 52 (.move (T 2)) 55,
 tO 52 (.binOp .eql 3 (T 54) (T 55) 3) 56,
 nO (.pick (T 52) (T 56) cN) 57,
 mvO 57 58,
 tO 58 (.load 62 (T 7)) 59,
 tO 58 (cF 138 #[T 59] #[62]) 60,
 tO 58 (.binOp .eql 36 (T 60) (cI 0) 36) 61,
 nO (.pick (T 58) (T 61) cN) 62,
 nO (cF 158 #[(T 62),(cI 8)] #[4,36]) 63]
def sc232r7:List SOp:=[faO 62 7 6 64,
 ldO 59 64 65,
 asO 65 6]
def sc232:SC:=(.seq (.reg sc232r0) (.seq (.reg sc232r1) (.seq (.reg sc232r2) (.seq (.reg sc232r3) (.seq (.seq (.reg sc232r4) (.cond (T 41) (.reg sc232r5) .skip)) (.seq (.reg sc232r6) (.seq (.reg sc232r7) .ret)))))))
theorem ext232:cx.ext 232=none:=by kernel_rfl
theorem ct232:CT 232 66 sc232 [.tmp 6]:=mkCT (fn:=Tryz.f232) (by kernel_rfl) (by kernel_rfl) rfl rfl (by kernel_rfl)
-- understory/page.formOf
def sc233r0:List SOp:=[nO (.box 64 (T 0)) 1,
 nO (.assign (cI 0)) 2]
def sc233r1:List SOp:=[nO (.alloc 27) 3]
def sc233r2:List SOp:=[faO 64 1 0 5,
 ldO 9 5 6,
 nO (.call {callee:=.builtin .len,args:=#[T 6],argTypes:=#[9]}) 7,
 nO (cF 211 #[(T 7),(cI 1),(cI 48)] #[3,3,3]) 8,
 nO (.unOp .not 4 (T 8)) 9,
 asO 9 4]
def sc233r3:List SOp:=[nO (.assign (cI 0)) 2]
def sc233r4:List SOp:=[faO 64 1 2 11,
 ldO 3 11 12,
 nO (.binOp .eql 3 (T 12) (cI 0) 3) 13,
 mvO 13 14,
 tO 14 (.fieldAddr 64 (T 1) 3) 15,
 tO 14 (.load 3 (T 15)) 16,
 tO 14 (.binOp .eql 3 (T 16) (cI 0) 3) 17,
 nO (.pick (T 14) (T 17) cN) 18,
 mvO 18 19,
 tO 19 (.fieldAddr 64 (T 1) 4) 20,
 tO 19 (.load 3 (T 20)) 21,
 tO 19 (.binOp .eql 3 (T 21) (cI 0) 3) 22,
 nO (.pick (T 19) (T 22) cN) 23,
 mvO 23 24,
 tO 24 (.fieldAddr 64 (T 1) 5) 25,
 tO 24 (.load 3 (T 25)) 26,
 tO 24 (.binOp .eql 3 (T 26) (cI 0) 3) 27,
 nO (.pick (T 24) (T 27) cN) 28,
 mvO 28 29,
 tO 29 (.fieldAddr 64 (T 1) 6) 30,
 tO 29 (.load 27 (T 30)) 31,
 tO 29 (.load 27 (T 3)) 32,
 tO 29 (.binOp .eql 27 (T 31) (T 32) 27) 33,
 nO (.pick (T 29) (T 33) cN) 34,
 mvO 34 35,
 tO 35 (.fieldAddr 64 (T 1) 1) 36,
 tO 35 (.load 9 (T 36)) 37,
 tO 35 (.call {callee:=.builtin .len,args:=#[T 37],argTypes:=#[9]}) 38,
 tO 35 (.binOp .leq 3 (T 38) (cI 64) 3) 39,
 nO (.pick (T 35) (T 39) cN) 40,
 asO 40 10]
def sc233r5:List SOp:=[nO (.assign (cI 1)) 2]
def sc233r6:List SOp:=[faO 64 1 1 42,
 ldO 9 42 43,
 nO (.binOp .neq 9 (T 43) (.const (.string (ByteArray.mk #[]))) 9) 44,
 asO 44 41]
def sc233r7:List SOp:=[nO (.assign (cI 0)) 2]
def sc233r8:List SOp:=[faO 64 1 4 46,
 ldO 3 46 47,
 nO (.binOp .eql 3 (T 47) (cI 0) 3) 48,
 mvO 48 49,
 tO 49 (.fieldAddr 64 (T 1) 5) 50,
 tO 49 (.load 3 (T 50)) 51,
 tO 49 (.binOp .eql 3 (T 51) (cI 0) 3) 52,
 nO (.pick (T 49) (T 52) cN) 53,
 mvO 53 54,
 tO 54 (.fieldAddr 64 (T 1) 2) 55,
 tO 54 (.load 3 (T 55)) 56,
 tO 54 (cF 210 #[T 56] #[3]) 57,
 nO (.pick (T 54) (T 57) cN) 58,
 mvO 58 59,
 tO 59 (.fieldAddr 64 (T 1) 3) 60,
 tO 59 (.load 3 (T 60)) 61,
 tO 59 (cF 211 #[(T 61),(cI 65),(cI 4000)] #[3,3,3]) 62,
 nO (.pick (T 59) (T 62) cN) 63,
 asO 63 45]
def sc233r9:List SOp:=[nO (.assign (cI 2)) 2]
def sc233r10:List SOp:=[faO 64 1 2 65,
 ldO 3 65 66,
 nO (.binOp .eql 3 (T 66) (cI 0) 3) 67,
 mvO 67 68,
 tO 68 (.fieldAddr 64 (T 1) 3) 69,
 tO 68 (.load 3 (T 69)) 70,
 tO 68 (.binOp .eql 3 (T 70) (cI 0) 3) 71,
 nO (.pick (T 68) (T 71) cN) 72,
 mvO 72 73,
 tO 73 (.fieldAddr 64 (T 1) 4) 74,
 tO 73 (.load 3 (T 74)) 75,
 tO 73 (cF 210 #[T 75] #[3]) 76,
 nO (.pick (T 73) (T 76) cN) 77,
 mvO 77 78,
 tO 78 (.fieldAddr 64 (T 1) 5) 79,
 tO 78 (.load 3 (T 79)) 80,
 tO 78 (cF 211 #[(T 80),(cI 1),(cI 2147483647)] #[3,3,3]) 81,
 nO (.pick (T 78) (T 81) cN) 82,
 asO 82 64]
def sc233r11:List SOp:=[nO (.assign (cI 3)) 2]
def sc233r12:List SOp:=[nO (.assign (cI 0)) 2]
def sc233:SC:=(.seq (.reg sc233r0) (.seq (.reg sc233r1) (.seq (.block 0 (.seq (.reg sc233r2) (.cond (T 4) (.seq (.reg sc233r3) .ret) (.seq (.reg sc233r4) (.cond (T 10) (.seq (.reg sc233r5) .ret) (.seq (.reg sc233r6) (.cond (T 41) (.seq (.reg sc233r7) .ret) (.seq (.reg sc233r8) (.cond (T 45) (.seq (.reg sc233r9) .ret) (.seq (.reg sc233r10) (.cond (T 64) (.seq (.reg sc233r11) .ret) .skip))))))))))) (.seq (.reg sc233r12) .ret))))
theorem ext233:cx.ext 233=none:=by kernel_rfl
theorem ct233:CT 233 83 sc233 [.tmp 2]:=mkCT (fn:=Tryz.f233) (by kernel_rfl) (by kernel_rfl) rfl rfl (by kernel_rfl)
-- understory/page.branches
def sc234r0:List SOp:=[nO (.box 64 (T 0)) 1,
 nO (.assign cN) 2]
def sc234r1:List SOp:=[faO 64 1 0 3,
 ldO 9 3 4,
 nO (.call {callee:=.builtin .len,args:=#[T 4],argTypes:=#[9]}) 5,
 nO (.binOp .leq 3 (T 5) (cI 48) 3) 6,
 mvO 6 7,
 tO 7 (.fieldAddr 64 (T 1) 1) 8,
 tO 7 (.load 9 (T 8)) 9,
 tO 7 (.binOp .eql 9 (T 9) (.const (.string (ByteArray.mk #[]))) 9) 10,
 nO (.pick (T 7) (T 10) cN) 11,
 mvO 11 12,
 tO 12 (.fieldAddr 64 (T 1) 2) 13,
 tO 12 (.load 3 (T 13)) 14,
 tO 12 (.binOp .eql 3 (T 14) (cI 0) 3) 15,
 nO (.pick (T 12) (T 15) cN) 16,
 mvO 16 17,
 tO 17 (.fieldAddr 64 (T 1) 3) 18,
 tO 17 (.load 3 (T 18)) 19,
 tO 17 (.binOp .eql 3 (T 19) (cI 0) 3) 20,
 nO (.pick (T 17) (T 20) cN) 21,
 mvO 21 22,
 tO 22 (.fieldAddr 64 (T 1) 4) 23,
 tO 22 (.load 3 (T 23)) 24,
 tO 22 (cF 210 #[T 24] #[3]) 25,
 nO (.pick (T 22) (T 25) cN) 26,
 mvO 26 27,
 tO 27 (.fieldAddr 64 (T 1) 5) 28,
 tO 27 (.load 3 (T 28)) 29,
 tO 27 (cF 211 #[(T 29),(cI 1),(cI 2147483647)] #[3,3,3]) 30,
 nO (.pick (T 27) (T 30) cN) 31,
 asO 31 2]
def sc234:SC:=(.seq (.reg sc234r0) (.seq (.reg sc234r1) .ret))
theorem ext234:cx.ext 234=none:=by kernel_rfl
theorem ct234:CT 234 32 sc234 [.tmp 2]:=mkCT (fn:=Tryz.f234) (by kernel_rfl) (by kernel_rfl) rfl rfl (by kernel_rfl)
-- understory/enc.Compare
def sc235r0:List SOp:=[nO (.assign (cI 0)) 4]
def sc235r1:List SOp:=[mvO 0 5,
 mvO 1 6,
 nO (cF 275 #[T 5,(T 6)] #[9,9]) 7,
 asO 7 4]
def sc235:SC:=(.seq (.reg sc235r0) (.seq (.reg sc235r1) .ret))
theorem ext235:cx.ext 235=none:=by kernel_rfl
theorem ct235:CT 235 8 sc235 [.tmp 4]:=mkCT (fn:=Tryz.f235) (by kernel_rfl) (by kernel_rfl) rfl rfl (by kernel_rfl)
-- understory/understoryref07.Readable
def sc244r0:List SOp:=[nO (.box 25 (T 0)) 3,
 nO (.assign cN) 6]
def sc244r1:List SOp:=[mvO 1 8,
 nO (.binOp .lss 3 (T 8) (cI 2) 3) 9,
 mvO 9 10,
 fO 10 (.move (T 1)) 11,
 fO 10 (.fieldAddr 25 (T 3) 0) 12,
 fO 10 (.load 22 (T 12)) 13,
 fO 10 (.call {callee:=.builtin .len,args:=#[T 13],argTypes:=#[22]}) 14,
 fO 10 (.binOp .geq 3 (T 11) (T 14) 3) 15,
 nO (.pick (T 10) cT (T 15)) 16,
 mvO 16 17,
 fO 17 (.fieldAddr 25 (T 3) 1) 18,
 fO 17 (.load 23 (T 18)) 19,
 fO 17 (.move (T 1)) 20,
 fO 17 (cF 246 #[T 19,(T 20)] #[23,3]) 21,
 nO (.pick (T 17) cT (T 21)) 22]
def sc244r2:List SOp:=[nO (.assign cN) 6]
def sc244r3:List SOp:=[faO 25 3 0 23,
 ldO 22 23 24,
 mvO 1 25,
 nO (.indexAddr 22 (T 24) (T 25)) 26,
 ldO 62 26 27,
 nO (.alloc 62) 7,
 ⟨none,.store 62 (T 7) (T 27),none⟩]
def sc244r4:List (SOp×DK):=[(nO (.fieldAddr 62 (T 7) 0) 28,.L 0 1 []),
 (nO (.load 3 (T 28)) 29,.L 0 1 []),
 (nO (.move (T 2)) 30,.L 0 0 []),
 (nO (cF 282 #[T 30] #[3]) 31,.A [28,29,30,31] [28,29]),
 (nO (.binOp .eql 3 (T 29) (T 31) 3) 32,.L 1 1 []),
 (nO (.move (T 32)) 33,.L 1 1 []),
 (tO 33 (.fieldAddr 62 (T 7) 4) 34,.L 1 1 []),
 (tO 33 (.load 3 (T 34)) 35,.L 1 1 []),
 (tO 33 (.move (T 2)) 36,.L 1 1 []),
 (tO 33 (.binOp .eql 3 (T 35) (T 36) 3) 37,.L 1 1 []),
 (nO (.pick (T 33) (T 37) cN) 38,.L 1 1 []),
 (nO (.move (T 38)) 39,.L 1 1 []),
 (tO 39 (.fieldAddr 62 (T 7) 1) 40,.L 1 1 []),
 (tO 39 (.load 3 (T 40)) 41,.L 1 1 []),
 (tO 39 (.move (T 1)) 42,.L 1 1 []),
 (tO 39 (.binOp .eql 3 (T 41) (T 42) 3) 43,.L 1 1 []),
 (nO (.pick (T 39) (T 43) cN) 44,.L 1 1 []),
 (nO (.move (T 44)) 45,.L 1 1 []),
 (tO 45 (.load 62 (T 7)) 46,.L 1 1 []),
 (tO 45 (cF 247 #[T 46] #[62]) 47,.A [28,29,30,31,32,33,34,35,36,37,38,39,40,41,42,43,44,45,46,47] []),
 (nO (.pick (T 45) (T 47) cN) 48,.L 2 2 []),
 (nO (.assign (T 48)) 6,.L 2 2 [])]
def sc244d4:SC:=.draw sc244r4
theorem sc244d4_x{o rd Q t h d r}:xC cx o rd sc244d4 Q t h d r=xDraw cx o rd Q sc244r4 0 [h] [] [] t h d r:=xC_draw (by kernel_rfl)
def sc244:SC:=(.seq (.reg sc244r0) (.seq (.seq (.reg sc244r1) (.cond (T 22) (.seq (.reg sc244r2) .ret) .skip)) (.seq (.reg sc244r3) (.seq sc244d4 .ret))))
theorem ext244:cx.ext 244=none:=by kernel_rfl
theorem ct244:CT 244 49 sc244 [.tmp 6]:=mkCT (fn:=Tryz.f244) (by kernel_rfl) (by kernel_rfl) rfl rfl (by kernel_rfl)
-- understory/understoryref07.has
def sc246r0:List SOp:=[nO (.assign cN) 4]
def sc246r1:List SOp:=[nO (.assign (cI 0)) 5]
def sc246r2:List SOp:=[mvO 5 6,
 mvO 0 7,
 nO (.call {callee:=.builtin .len,args:=#[T 7],argTypes:=#[23]}) 8,
 nO (.binOp .lss 3 (T 6) (T 8) 3) 9]
def sc246r3:List SOp:=[mvO 0 12,
 mvO 5 13,
 nO (.indexAddr 23 (T 12) (T 13)) 14,
 ldO 3 14 15,
 mvO 1 16,
 nO (.binOp .eql 3 (T 15) (T 16) 3) 17]
def sc246r4:List SOp:=[nO (.assign cT) 4]
def sc246r5:List SOp:=[mvO 5 10,
 nO (.binOp .add 3 (T 10) (cI 1) 3) 11,
 asO 11 5]
def sc246l6:SC:=(.seq (.seq (.reg sc246r2) (.cond (T 9) .skip (.exit 0))) (.seq (.block 1 (.seq (.reg sc246r3) (.cond (T 17) (.seq (.reg sc246r4) .ret) .skip))) (.reg sc246r5)))
def sc246r7:List SOp:=[nO (.assign cN) 4]
def sc246:SC:=(.seq (.reg sc246r0) (.seq (.seq (.reg sc246r1) (.block 0 (.loop sc246l6))) (.seq (.reg sc246r7) .ret)))
theorem ext246:cx.ext 246=none:=by kernel_rfl
theorem ct246:CT 246 18 sc246 [.tmp 4]:=mkCT (fn:=Tryz.f246) (by kernel_rfl) (by kernel_rfl) rfl rfl (by kernel_rfl)
-- understory/understoryref04.IsPage
def sc247r0:List SOp:=[nO (.box 62 (T 0)) 1,
 nO (.assign cN) 2]
def sc247r1:List SOp:=[faO 62 1 2 3,
 ldO 3 3 4,
 nO (.binOp .lss 3 (T 4) (cI 0) 3) 5,
 mvO 5 6,
 fO 6 (.fieldAddr 62 (T 1) 2) 7,
 fO 6 (.load 3 (T 7)) 8,
 fO 6 (.binOp .gtr 3 (T 8) (cI 1099511627776) 3) 9,
 nO (.pick (T 6) cT (T 9)) 10,
 mvO 10 11,
 fO 11 (.fieldAddr 62 (T 1) 1) 12,
 fO 11 (.load 3 (T 12)) 13,
 fO 11 (cF 283 #[T 13] #[3]) 14,
 fO 11 (.unOp .not 4 (T 14)) 15,
 nO (.pick (T 11) cT (T 15)) 16,
 mvO 16 17,
 fO 17 (.load 62 (T 1)) 18,
 fO 17 (cF 284 #[T 18] #[62]) 19,
 fO 17 (.unOp .not 4 (T 19)) 20,
 nO (.pick (T 17) cT (T 20)) 21]
def sc247r2:List SOp:=[nO (.assign cN) 2]
def sc247r3:List SOp:=[faO 62 1 0 22,
 ldO 3 22 23]
def sc247r4:List SOp:=[nO (.binOp .eql 3 (T 23) (cI 1) 3) 25,
 asO 25 24]
def sc247r5:List SOp:=[nO (.binOp .eql 3 (T 23) (cI 2) 3) 26,
 asO 26 24]
def sc247r6:List SOp:=[faO 62 1 0 27,
 ldO 3 27 28,
 nO (.binOp .eql 3 (T 28) (cI 1) 3) 29,
 faO 62 1 4 30,
 ldO 3 30 31,
 nO (.binOp .eql 3 (T 31) (cI 0) 3) 32,
 nO (.binOp .eql 4 (T 29) (T 32) 4) 33,
 mvO 33 34,
 tO 34 (.fieldAddr 62 (T 1) 3) 35,
 tO 34 (.load 3 (T 35)) 36,
 tO 34 (.binOp .geq 3 (T 36) (cI 0) 3) 37,
 nO (.pick (T 34) (T 37) cN) 38,
 mvO 38 39,
 tO 39 (.fieldAddr 62 (T 1) 3) 40,
 tO 39 (.load 3 (T 40)) 41,
 tO 39 (.binOp .leq 3 (T 41) (cI 255) 3) 42,
 nO (.pick (T 39) (T 42) cN) 43,
 mvO 43 44,
 tO 44 (.fieldAddr 62 (T 1) 6) 45,
 tO 44 (.load 59 (T 45)) 46,
 tO 44 (.call {callee:=.builtin .len,args:=#[T 46],argTypes:=#[59]}) 47,
 tO 44 (.binOp .leq 3 (T 47) (cI 496) 3) 48,
 nO (.pick (T 44) (T 48) cN) 49,
 mvO 49 50,
 tO 50 (.fieldAddr 62 (T 1) 6) 51,
 tO 50 (.load 59 (T 51)) 52,
 tO 50 (.fieldAddr 62 (T 1) 4) 53,
 tO 50 (.load 3 (T 53)) 54,
 tO 50 (cF 285 #[T 52,(T 54)] #[59,3]) 55,
 nO (.pick (T 50) (T 55) cN) 56,
 asO 56 2]
def sc247r7:List SOp:=[nO (.binOp .eql 3 (T 23) (cI 3) 3) 58,
 asO 58 57]
def sc247r8:List SOp:=[faO 62 1 7 59,
 ldO 3 59 60,
 nO (.binOp .eql 3 (T 60) (cI 0) 3) 61,
 mvO 61 62,
 fO 62 (.fieldAddr 62 (T 1) 7) 63,
 fO 62 (.load 3 (T 63)) 64,
 fO 62 (cF 283 #[T 64] #[3]) 65,
 nO (.pick (T 62) cT (T 65)) 66,
 mvO 66 67,
 tO 67 (.fieldAddr 62 (T 1) 8) 68,
 tO 67 (.load 9 (T 68)) 69,
 tO 67 (.call {callee:=.builtin .len,args:=#[T 69],argTypes:=#[9]}) 70,
 tO 67 (.binOp .geq 3 (T 70) (cI 1) 3) 71,
 nO (.pick (T 67) (T 71) cN) 72,
 mvO 72 73,
 tO 73 (.fieldAddr 62 (T 1) 8) 74,
 tO 73 (.load 9 (T 74)) 75,
 tO 73 (.call {callee:=.builtin .len,args:=#[T 75],argTypes:=#[9]}) 76,
 tO 73 (.binOp .leq 3 (T 76) (cI 490) 3) 77,
 nO (.pick (T 73) (T 77) cN) 78,
 asO 78 2]
def sc247r9:List SOp:=[nO (.binOp .eql 3 (T 23) (cI 4) 3) 80,
 asO 80 79]
def sc247r10:List SOp:=[faO 62 1 7 81,
 ldO 3 81 82,
 nO (.binOp .eql 3 (T 82) (cI 0) 3) 83,
 mvO 83 84,
 fO 84 (.fieldAddr 62 (T 1) 7) 85,
 fO 84 (.load 3 (T 85)) 86,
 fO 84 (cF 283 #[T 86] #[3]) 87,
 nO (.pick (T 84) cT (T 87)) 88,
 mvO 88 89,
 tO 89 (.fieldAddr 62 (T 1) 9) 90,
 tO 89 (.load 60 (T 90)) 91,
 tO 89 (.call {callee:=.builtin .len,args:=#[T 91],argTypes:=#[60]}) 92,
 tO 89 (.binOp .leq 3 (T 92) (cI 496) 3) 93,
 nO (.pick (T 89) (T 93) cN) 94,
 mvO 94 95,
 tO 95 (.fieldAddr 62 (T 1) 9) 96,
 tO 95 (.load 60 (T 96)) 97,
 tO 95 (cF 286 #[T 97] #[60]) 98,
 nO (.pick (T 95) (T 98) cN) 99,
 mvO 99 100,
 tO 100 (.fieldAddr 62 (T 1) 9) 101,
 tO 100 (.load 60 (T 101)) 102,
 tO 100 (cF 287 #[T 102] #[60]) 103,
 tO 100 (.binOp .leq 3 (T 103) (cI 496) 3) 104,
 nO (.pick (T 100) (T 104) cN) 105,
 mvO 105 106,
 tO 106 (.fieldAddr 62 (T 1) 9) 107,
 tO 106 (.load 60 (T 107)) 108,
 tO 106 (cF 288 #[T 108] #[60]) 109,
 tO 106 (.call {callee:=.builtin .len,args:=#[T 109],argTypes:=#[9]}) 110,
 tO 106 (.binOp .leq 3 (T 110) (cI 492) 3) 111,
 nO (.pick (T 106) (T 111) cN) 112,
 asO 112 2]
def sc247r11:List SOp:=[nO (.assign cN) 2]
def sc247:SC:=(.seq (.reg sc247r0) (.seq (.seq (.reg sc247r1) (.cond (T 21) (.seq (.reg sc247r2) .ret) .skip)) (.seq (.seq (.reg sc247r3) (.block 0 (.seq (.seq (.reg sc247r4) (.cond (T 24) .skip (.reg sc247r5))) (.cond (T 24) (.seq (.reg sc247r6) .ret) (.seq (.reg sc247r7) (.cond (T 57) (.seq (.reg sc247r8) .ret) (.seq (.reg sc247r9) (.cond (T 79) (.seq (.reg sc247r10) .ret) .skip)))))))) (.seq (.reg sc247r11) .ret))))
theorem ext247:cx.ext 247=none:=by kernel_rfl
theorem ct247:CT 247 113 sc247 [.tmp 2]:=mkCT (fn:=Tryz.f247) (by kernel_rfl) (by kernel_rfl) rfl rfl (by kernel_rfl)
-- cmp.isNaN[int]
def sc264r0:List SOp:=[nO (.assign cN) 2]
def sc264r1:List SOp:=[mvO 0 3,
 mvO 0 4,
 nO (.binOp .neq 3 (T 3) (T 4) 3) 5,
 asO 5 2]
def sc264:SC:=(.seq (.reg sc264r0) (.seq (.reg sc264r1) .ret))
theorem ext264:cx.ext 264=none:=by kernel_rfl
theorem ct264:CT 264 6 sc264 [.tmp 2]:=mkCT (fn:=Tryz.f264) (by kernel_rfl) (by kernel_rfl) rfl rfl (by kernel_rfl)
-- understory/page.Weight
def sc273r0:List SOp:=[nO (.assign (cI 0)) 4,
 nO (.assign (cI 0)) 5]
def sc273r1:List SOp:=[mvO 1 11,
 nO (cF 211 #[(T 11),(cI 0),(cI 20)] #[3,3,3]) 12,
 nO (.unOp .not 4 (T 12)) 13]
def sc273r2:List SOp:=[nO (.assign (cI 0)) 4,
 nO (.assign (cI 2)) 5]
def sc273r3:List SOp:=[nO (.assign (cI 6)) 6]
def sc273r4:List SOp:=[mvO 0 14,
 nO (.call {callee:=.builtin .len,args:=#[T 14],argTypes:=#[59]}) 15,
 nO (.move (cI 0)) 16]
def sc273r5:List SOp:=[nO (.binOp .lss 3 (T 16) (T 15) 3) 17]
def sc273r6:List SOp:=[nO (.indexAddr 59 (T 14) (T 16)) 18,
 ldO 64 18 19,
 nO (.alloc 64) 8,
 ⟨none,.store 64 (T 8) (T 19),none⟩]
def sc273r7:List SOp:=[ldO 64 8 21,
 mvO 1 22,
 nO (cF 321 #[T 21,(T 22)] #[64,3]) 23,
 mvO 23 20,
 nO (.extract (T 20) 0) 24,
 nO (.extract (T 20) 1) 25,
 asO 24 9,
 asO 25 10]
def sc273r8:List SOp:=[mvO 10 26,
 nO (.unOp .not 4 (T 26)) 27]
def sc273r9:List SOp:=[nO (.assign (cI 0)) 4,
 nO (.assign (cI 2)) 5]
def sc273r10:List SOp:=[mvO 6 28,
 mvO 9 29,
 nO (.binOp .add 3 (T 28) (T 29) 3) 30,
 asO 30 6]
def sc273r11:List SOp:=[nO (.binOp .add 3 (T 16) (cI 1) 3) 31,
 mvO 31 16]
def sc273l12:SC:=(.seq (.reg sc273r5) (.seq (.cond (T 17) .skip (.exit 0)) (.seq (.block 1 (.seq (.reg sc273r6) (.seq (.reg sc273r7) (.seq (.seq (.reg sc273r8) (.cond (T 27) (.seq (.reg sc273r9) .ret) .skip)) (.reg sc273r10))))) (.reg sc273r11))))
def sc273r13:List SOp:=[mvO 6 32,
 asO 32 4,
 nO (.assign (cI 0)) 5]
def sc273:SC:=(.seq (.reg sc273r0) (.seq (.seq (.reg sc273r1) (.cond (T 13) (.seq (.reg sc273r2) .ret) .skip)) (.seq (.reg sc273r3) (.seq (.seq (.reg sc273r4) (.block 0 (.loop sc273l12))) (.seq (.reg sc273r13) .ret)))))
theorem ext273:cx.ext 273=none:=by kernel_rfl
theorem ct273:CT 273 33 sc273 [.tmp 4,.tmp 5]:=mkCT (fn:=Tryz.f273) (by kernel_rfl) (by kernel_rfl) rfl rfl (by kernel_rfl)
-- understory/tree.has[int]
def sc274r0:List SOp:=[nO (.assign cN) 4]
def sc274r1:List SOp:=[mvO 0 8,
 mvO 1 9,
 nO (cF 131 #[T 8,(T 9)] #[23,3]) 10,
 mvO 10 7,
 nO (.extract (T 7) 0) 11,
 nO (.extract (T 7) 1) 12,
 asO 11 5,
 asO 12 6]
def sc274r2:List SOp:=[mvO 6 13,
 asO 13 4]
def sc274:SC:=(.seq (.reg sc274r0) (.seq (.reg sc274r1) (.seq (.reg sc274r2) .ret)))
theorem ext274:cx.ext 274=none:=by kernel_rfl
theorem ct274:CT 274 14 sc274 [.tmp 4]:=mkCT (fn:=Tryz.f274) (by kernel_rfl) (by kernel_rfl) rfl rfl (by kernel_rfl)
-- cmp.Compare[string]
def sc275r0:List SOp:=[nO (.assign (cI 0)) 4]
def sc275r1:List SOp:=[mvO 0 7,
 nO (cF 322 #[T 7] #[9]) 8,
 asO 8 5]
def sc275r2:List SOp:=[mvO 1 9,
 nO (cF 322 #[T 9] #[9]) 10,
 asO 10 6]
def sc275r3:List SOp:=[mvO 5 11]
def sc275r4:List SOp:=[mvO 6 12]
def sc275r5:List SOp:=[nO (.assign (cI 0)) 4]
def sc275r6:List SOp:=[nO (.assign (.const (.int .i64 (-1)))) 4]
def sc275r7:List SOp:=[mvO 6 13]
def sc275r8:List SOp:=[nO (.assign (cI 1)) 4]
def sc275r9:List SOp:=[mvO 0 14,
 mvO 1 15,
 nO (.binOp .lss 9 (T 14) (T 15) 9) 16]
def sc275r10:List SOp:=[nO (.assign (.const (.int .i64 (-1)))) 4]
def sc275r11:List SOp:=[mvO 0 17,
 mvO 1 18,
 nO (.binOp .gtr 9 (T 17) (T 18) 9) 19]
def sc275r12:List SOp:=[nO (.assign (cI 1)) 4]
def sc275r13:List SOp:=[nO (.assign (cI 0)) 4]
def sc275:SC:=(.seq (.reg sc275r0) (.seq (.reg sc275r1) (.seq (.reg sc275r2) (.seq (.seq (.reg sc275r3) (.cond (T 11) (.seq (.seq (.reg sc275r4) (.cond (T 12) (.seq (.reg sc275r5) .ret) .skip)) (.seq (.reg sc275r6) .ret)) .skip)) (.seq (.seq (.reg sc275r7) (.cond (T 13) (.seq (.reg sc275r8) .ret) .skip)) (.seq (.seq (.reg sc275r9) (.cond (T 16) (.seq (.reg sc275r10) .ret) .skip)) (.seq (.seq (.reg sc275r11) (.cond (T 19) (.seq (.reg sc275r12) .ret) .skip)) (.seq (.reg sc275r13) .ret))))))))
theorem ext275:cx.ext 275=none:=by kernel_rfl
theorem ct275:CT 275 20 sc275 [.tmp 4]:=mkCT (fn:=Tryz.f275) (by kernel_rfl) (by kernel_rfl) rfl rfl (by kernel_rfl)
-- understory/understoryref07.kindOf
def sc282r0:List SOp:=[nO (.assign (cI 0)) 2]
def sc282r1:List SOp:=[mvO 0 3,
 nO (.binOp .eql 3 (T 3) (cI 0) 3) 4]
def sc282r2:List SOp:=[nO (.assign (cI 1)) 2]
def sc282r3:List SOp:=[nO (.assign (cI 2)) 2]
def sc282:SC:=(.seq (.reg sc282r0) (.seq (.seq (.reg sc282r1) (.cond (T 4) (.seq (.reg sc282r2) .ret) .skip)) (.seq (.reg sc282r3) .ret)))
theorem ext282:cx.ext 282=none:=by kernel_rfl
theorem ct282:CT 282 5 sc282 [.tmp 2]:=mkCT (fn:=Tryz.f282) (by kernel_rfl) (by kernel_rfl) rfl rfl (by kernel_rfl)
-- understory/understoryref04.isPage
def sc283r0:List SOp:=[nO (.assign cN) 2]
def sc283r1:List SOp:=[mvO 0 3,
 nO (.binOp .geq 3 (T 3) (cI 2) 3) 4,
 mvO 4 5,
 tO 5 (.move (T 0)) 6,
 tO 5 (.binOp .lss 3 (T 6) (cI 4096) 3) 7,
 nO (.pick (T 5) (T 7) cN) 8,
 asO 8 2]
def sc283:SC:=(.seq (.reg sc283r0) (.seq (.reg sc283r1) .ret))
theorem ext283:cx.ext 283=none:=by kernel_rfl
theorem ct283:CT 283 9 sc283 [.tmp 2]:=mkCT (fn:=Tryz.f283) (by kernel_rfl) (by kernel_rfl) rfl rfl (by kernel_rfl)
-- understory/understoryref04.plain
def sc284r0:List SOp:=[nO (.box 62 (T 0)) 1,
 nO (.assign cN) 2]
def sc284r1:List SOp:=[faO 62 1 0 4,
 ldO 3 4 5,
 nO (.binOp .eql 3 (T 5) (cI 1) 3) 6,
 mvO 6 7,
 fO 7 (.fieldAddr 62 (T 1) 0) 8,
 fO 7 (.load 3 (T 8)) 9,
 fO 7 (.binOp .eql 3 (T 9) (cI 2) 3) 10,
 nO (.pick (T 7) cT (T 10)) 11,
 asO 11 3]
def sc284r2:List SOp:=[mvO 3 12,
 nO (.unOp .not 4 (T 12)) 13,
 mvO 13 14,
 tO 14 (.fieldAddr 62 (T 1) 3) 15,
 tO 14 (.load 3 (T 15)) 16,
 tO 14 (.binOp .neq 3 (T 16) (cI 0) 3) 17,
 tO 14 (.move (T 17)) 18,
 fO 18 (.fieldAddr 62 (T 1) 4) 19,
 fO 18 (.load 3 (T 19)) 20,
 fO 18 (.binOp .neq 3 (T 20) (cI 0) 3) 21,
 tO 14 (.pick (T 18) cT (T 21)) 22,
 tO 14 (.move (T 22)) 23,
 fO 23 (.fieldAddr 62 (T 1) 5) 24,
 fO 23 (.load 4 (T 24)) 25,
 tO 14 (.pick (T 23) cT (T 25)) 26,
 tO 14 (.move (T 26)) 27,
 fO 27 (.fieldAddr 62 (T 1) 6) 28,
 fO 27 (.load 59 (T 28)) 29,
 fO 27 (.call {callee:=.builtin .len,args:=#[T 29],argTypes:=#[59]}) 30,
 fO 27 (.binOp .gtr 3 (T 30) (cI 0) 3) 31,
 tO 14 (.pick (T 27) cT (T 31)) 32,
 nO (.pick (T 14) (T 32) cN) 33]
def sc284r3:List SOp:=[nO (.assign cN) 2]
def sc284r4:List SOp:=[mvO 3 34,
 nO (.unOp .not 4 (T 34)) 35,
 mvO 35 36,
 fO 36 (.fieldAddr 62 (T 1) 7) 37,
 fO 36 (.load 3 (T 37)) 38,
 fO 36 (.binOp .eql 3 (T 38) (cI 0) 3) 39,
 nO (.pick (T 36) cT (T 39)) 40,
 mvO 40 41,
 tO 41 (.fieldAddr 62 (T 1) 0) 42,
 tO 41 (.load 3 (T 42)) 43,
 tO 41 (.binOp .eql 3 (T 43) (cI 3) 3) 44,
 tO 41 (.move (T 44)) 45,
 fO 45 (.fieldAddr 62 (T 1) 8) 46,
 fO 45 (.load 9 (T 46)) 47,
 fO 45 (.binOp .eql 9 (T 47) (.const (.string (ByteArray.mk #[]))) 9) 48,
 tO 41 (.pick (T 45) cT (T 48)) 49,
 nO (.pick (T 41) (T 49) cN) 50,
 mvO 50 51,
 tO 51 (.fieldAddr 62 (T 1) 0) 52,
 tO 51 (.load 3 (T 52)) 53,
 tO 51 (.binOp .eql 3 (T 53) (cI 4) 3) 54,
 tO 51 (.move (T 54)) 55,
 fO 55 (.fieldAddr 62 (T 1) 9) 56,
 fO 55 (.load 60 (T 56)) 57,
 fO 55 (.call {callee:=.builtin .len,args:=#[T 57],argTypes:=#[60]}) 58,
 fO 55 (.binOp .eql 3 (T 58) (cI 0) 3) 59,
 tO 51 (.pick (T 55) cT (T 59)) 60,
 nO (.pick (T 51) (T 60) cN) 61,
 asO 61 2]
def sc284:SC:=(.seq (.reg sc284r0) (.seq (.reg sc284r1) (.seq (.seq (.reg sc284r2) (.cond (T 33) (.seq (.reg sc284r3) .ret) .skip)) (.seq (.reg sc284r4) .ret))))
theorem ext284:cx.ext 284=none:=by kernel_rfl
theorem ct284:CT 284 62 sc284 [.tmp 2]:=mkCT (fn:=Tryz.f284) (by kernel_rfl) (by kernel_rfl) rfl rfl (by kernel_rfl)
-- understory/understoryref04.Fits
def sc285r0:List SOp:=[nO (.assign cN) 4]
def sc285r1:List SOp:=[mvO 0 5,
 mvO 1 6,
 nO (cF 289 #[T 5,(T 6)] #[59,3]) 7,
 mvO 7 8,
 tO 8 (.move (T 0)) 9,
 tO 8 (.move (T 1)) 10,
 tO 8 (cF 328 #[T 9,(T 10)] #[59,3]) 11,
 tO 8 (.field 419 (T 11) 0) 12,
 tO 8 (.binOp .leq 3 (T 12) (cI 496) 3) 13,
 nO (.pick (T 8) (T 13) cN) 14,
 asO 14 4]
def sc285:SC:=(.seq (.reg sc285r0) (.seq (.reg sc285r1) .ret))
theorem ext285:cx.ext 285=none:=by kernel_rfl
theorem ct285:CT 285 15 sc285 [.tmp 4]:=mkCT (fn:=Tryz.f285) (by kernel_rfl) (by kernel_rfl) rfl rfl (by kernel_rfl)
-- understory/understoryref04.freed
def sc286r0:List SOp:=[nO (.assign cN) 2]
def sc286r1:List SOp:=[nO (.assign (cI 0)) 3]
def sc286r2:List SOp:=[mvO 3 6,
 mvO 0 7,
 nO (.call {callee:=.builtin .len,args:=#[T 7],argTypes:=#[60]}) 8,
 nO (.binOp .lss 3 (T 6) (T 8) 3) 9]
def sc286r3:List SOp:=[mvO 0 12,
 mvO 3 13,
 nO (.indexAddr 60 (T 12) (T 13)) 14,
 ldO 375 14 15,
 nO (.alloc 375) 4,
 ⟨none,.store 375 (T 4) (T 15),none⟩]
def sc286r4:List (SOp×DK):=[(nO (.fieldAddr 375 (T 4) 0) 16,.L 0 0 []),
 (nO (.load 3 (T 16)) 17,.L 0 0 []),
 (nO (.binOp .lss 3 (T 17) (cI 0) 3) 18,.L 0 0 []),
 (nO (.move (T 18)) 19,.L 0 0 []),
 (fO 19 (.fieldAddr 375 (T 4) 0) 20,.L 0 0 []),
 (fO 19 (.load 3 (T 20)) 21,.L 0 0 []),
 (fO 19 (.binOp .gtr 3 (T 21) (cI 1099511627776) 3) 22,.L 0 0 []),
 (nO (.pick (T 19) cT (T 22)) 23,.L 0 0 []),
 (nO (.move (T 23)) 24,.L 0 0 []),
 (fO 24 (.move (T 3)) 25,.L 0 0 []),
 (fO 24 (.binOp .gtr 3 (T 25) (cI 0) 3) 26,.L 0 0 []),
 (fO 24 (.move (T 26)) 27,.L 0 0 []),
 (tO 27 (.fieldAddr 375 (T 4) 0) 28,.L 0 0 []),
 (tO 27 (.load 3 (T 28)) 29,.L 0 0 []),
 (tO 27 (.move (T 0)) 30,.L 0 0 []),
 (tO 27 (.move (T 3)) 31,.L 0 0 []),
 (tO 27 (.binOp .sub 3 (T 31) (cI 1) 3) 32,.L 0 0 []),
 (tO 27 (.indexAddr 60 (T 30) (T 32)) 33,.L 0 0 []),
 (tO 27 (.fieldAddr 375 (T 33) 0) 34,.L 0 0 []),
 (tO 27 (.load 3 (T 34)) 35,.L 0 0 []),
 (tO 27 (.binOp .leq 3 (T 29) (T 35) 3) 36,.L 0 0 []),
 (fO 24 (.pick (T 27) (T 36) cN) 37,.L 0 0 []),
 (nO (.pick (T 24) cT (T 37)) 38,.L 0 0 []),
 (nO (.move (T 38)) 39,.L 0 0 []),
 (fO 39 (.fieldAddr 375 (T 4) 1) 40,.L 0 0 []),
 (fO 39 (.load 23 (T 40)) 41,.L 0 0 []),
 (fO 39 (.call {callee:=.builtin .len,args:=#[T 41],argTypes:=#[23]}) 42,.L 0 0 []),
 (fO 39 (.binOp .eql 3 (T 42) (cI 0) 3) 43,.L 0 0 []),
 (nO (.pick (T 39) cT (T 43)) 44,.L 0 0 [])]
def sc286d4:SC:=.draw sc286r4
theorem sc286d4_x{o rd Q t h d r}:xC cx o rd sc286d4 Q t h d r=xDraw cx o rd Q sc286r4 0 [h] [] [] t h d r:=xC_draw (by kernel_rfl)
def sc286r5:List SOp:=[nO (.assign cN) 2]
def sc286r6:List SOp:=[nO (.assign (cI 0)) 5]
def sc286r7:List SOp:=[mvO 5 45,
 faO 375 4 1 46,
 ldO 23 46 47,
 nO (.call {callee:=.builtin .len,args:=#[T 47],argTypes:=#[23]}) 48,
 nO (.binOp .lss 3 (T 45) (T 48) 3) 49]
def sc286r8:List (SOp×DK):=[(nO (.fieldAddr 375 (T 4) 1) 52,.L 0 0 []),
 (nO (.load 23 (T 52)) 53,.L 0 0 []),
 (nO (.move (T 5)) 54,.L 0 0 []),
 (nO (.indexAddr 23 (T 53) (T 54)) 55,.L 0 0 []),
 (nO (.load 3 (T 55)) 56,.L 0 0 []),
 (nO (cF 283 #[T 56] #[3]) 57,.A [52,53,54,55,56,57] []),
 (nO (.unOp .not 4 (T 57)) 58,.L 1 1 []),
 (nO (.move (T 58)) 59,.L 1 1 []),
 (fO 59 (.move (T 5)) 60,.L 1 1 []),
 (fO 59 (.binOp .gtr 3 (T 60) (cI 0) 3) 61,.L 1 1 []),
 (fO 59 (.move (T 61)) 62,.L 1 1 []),
 (tO 62 (.fieldAddr 375 (T 4) 1) 63,.L 1 1 []),
 (tO 62 (.load 23 (T 63)) 64,.L 1 1 []),
 (tO 62 (.move (T 5)) 65,.L 1 1 []),
 (tO 62 (.indexAddr 23 (T 64) (T 65)) 66,.L 1 1 []),
 (tO 62 (.load 3 (T 66)) 67,.L 1 1 []),
 (tO 62 (.fieldAddr 375 (T 4) 1) 68,.L 1 1 []),
 (tO 62 (.load 23 (T 68)) 69,.L 1 1 []),
 (tO 62 (.move (T 5)) 70,.L 1 1 []),
 (tO 62 (.binOp .sub 3 (T 70) (cI 1) 3) 71,.L 1 1 []),
 (tO 62 (.indexAddr 23 (T 69) (T 71)) 72,.L 1 1 []),
 (tO 62 (.load 3 (T 72)) 73,.L 1 1 []),
 (tO 62 (.binOp .leq 3 (T 67) (T 73) 3) 74,.L 1 1 []),
 (fO 59 (.pick (T 62) (T 74) cN) 75,.L 1 1 []),
 (nO (.pick (T 59) cT (T 75)) 76,.L 1 1 [])]
def sc286d8:SC:=.draw sc286r8
theorem sc286d8_x{o rd Q t h d r}:xC cx o rd sc286d8 Q t h d r=xDraw cx o rd Q sc286r8 0 [h] [] [] t h d r:=xC_draw (by kernel_rfl)
def sc286r9:List SOp:=[nO (.assign cN) 2]
def sc286r10:List SOp:=[mvO 5 50,
 nO (.binOp .add 3 (T 50) (cI 1) 3) 51,
 asO 51 5]
def sc286l11:SC:=(.seq (.seq (.reg sc286r7) (.cond (T 49) .skip (.exit 2))) (.seq (.block 3 (.seq sc286d8 (.cond (T 76) (.seq (.reg sc286r9) .ret) .skip))) (.reg sc286r10)))
def sc286r12:List SOp:=[mvO 3 10,
 nO (.binOp .add 3 (T 10) (cI 1) 3) 11,
 asO 11 3]
def sc286l13:SC:=(.seq (.seq (.reg sc286r2) (.cond (T 9) .skip (.exit 0))) (.seq (.block 1 (.seq (.reg sc286r3) (.seq (.seq sc286d4 (.cond (T 44) (.seq (.reg sc286r5) .ret) .skip)) (.seq (.reg sc286r6) (.block 2 (.loop sc286l11)))))) (.reg sc286r12)))
def sc286r14:List SOp:=[nO (.assign cT) 2]
def sc286:SC:=(.seq (.reg sc286r0) (.seq (.seq (.reg sc286r1) (.block 0 (.loop sc286l13))) (.seq (.reg sc286r14) .ret)))
theorem ext286:cx.ext 286=none:=by kernel_rfl
theorem ct286:CT 286 77 sc286 [.tmp 2]:=mkCT (fn:=Tryz.f286) (by kernel_rfl) (by kernel_rfl) rfl rfl (by kernel_rfl)
-- understory/understoryref04.words
def sc287r0:List SOp:=[nO (.assign (cI 0)) 2]
def sc287r1:List SOp:=[nO (.assign (cI 0)) 3]
def sc287r2:List SOp:=[nO (.assign (cI 0)) 4]
def sc287r3:List SOp:=[mvO 4 5,
 mvO 0 6,
 nO (.call {callee:=.builtin .len,args:=#[T 6],argTypes:=#[60]}) 7,
 nO (.binOp .lss 3 (T 5) (T 7) 3) 8]
def sc287r4:List SOp:=[mvO 3 11,
 nO (.binOp .add 3 (T 11) (cI 2) 3) 12,
 mvO 0 13,
 mvO 4 14,
 nO (.indexAddr 60 (T 13) (T 14)) 15,
 faO 375 15 1 16,
 ldO 23 16 17,
 nO (.call {callee:=.builtin .len,args:=#[T 17],argTypes:=#[23]}) 18,
 nO (.binOp .add 3 (T 12) (T 18) 3) 19,
 asO 19 3]
def sc287r5:List SOp:=[mvO 4 9,
 nO (.binOp .add 3 (T 9) (cI 1) 3) 10,
 asO 10 4]
def sc287l6:SC:=(.seq (.seq (.reg sc287r3) (.cond (T 8) .skip (.exit 0))) (.seq (.block 1 (.reg sc287r4)) (.reg sc287r5)))
def sc287r7:List SOp:=[mvO 3 20,
 asO 20 2]
def sc287:SC:=(.seq (.reg sc287r0) (.seq (.reg sc287r1) (.seq (.seq (.reg sc287r2) (.block 0 (.loop sc287l6))) (.seq (.reg sc287r7) .ret))))
theorem ext287:cx.ext 287=none:=by kernel_rfl
theorem ct287:CT 287 21 sc287 [.tmp 2]:=mkCT (fn:=Tryz.f287) (by kernel_rfl) (by kernel_rfl) rfl rfl (by kernel_rfl)
-- understory/understoryref04.list
def sc288r0:List SOp:=[nO (.assign (.const (.string (ByteArray.mk #[])))) 2]
def sc288r1:List SOp:=[mvO 0 6,
 nO (.call {callee:=.builtin .len,args:=#[T 6],argTypes:=#[60]}) 7,
 nO (cF 147 #[(T 7),(cI 2)] #[3,3]) 8,
 asO 8 3]
def sc288r2:List SOp:=[nO (.assign (cI 0)) 4]
def sc288r3:List SOp:=[mvO 4 9,
 mvO 0 10,
 nO (.call {callee:=.builtin .len,args:=#[T 10],argTypes:=#[60]}) 11,
 nO (.binOp .lss 3 (T 9) (T 11) 3) 12]
def sc288r4:List (SOp×DK):=[(nO (.move (T 3)) 15,.L 0 2 []),
 (nO (.move (T 0)) 16,.L 0 0 []),
 (nO (.move (T 4)) 17,.L 0 0 []),
 (nO (.indexAddr 60 (T 16) (T 17)) 18,.L 0 0 []),
 (nO (.fieldAddr 375 (T 18) 0) 19,.L 0 0 []),
 (nO (.load 3 (T 19)) 20,.L 0 0 []),
 (nO (cF 147 #[(T 20),(cI 6)] #[3,3]) 21,.A [15,16,17,18,19,20,21,23,24,25,26,27,28] [15,23,24,25,26,27,28]),
 (nO (.binOp .add 9 (T 15) (T 21) 9) 22,.L 1 2 []),
 (nO (.move (T 0)) 23,.L 0 1 []),
 (nO (.move (T 4)) 24,.L 0 1 []),
 (nO (.indexAddr 60 (T 23) (T 24)) 25,.L 0 1 []),
 (nO (.fieldAddr 375 (T 25) 1) 26,.L 0 1 []),
 (nO (.load 23 (T 26)) 27,.L 0 1 []),
 (nO (.call {callee:=.builtin .len,args:=#[T 27],argTypes:=#[23]}) 28,.L 0 1 []),
 (nO (cF 147 #[(T 28),(cI 2)] #[3,3]) 29,.A [15,16,17,18,19,20,21,22,23,24,25,26,27,28,29] [15,22]),
 (nO (.binOp .add 9 (T 22) (T 29) 9) 30,.L 2 2 []),
 (nO (.assign (T 30)) 3,.L 2 2 [])]
def sc288d4:SC:=.draw sc288r4
theorem sc288d4_x{o rd Q t h d r}:xC cx o rd sc288d4 Q t h d r=xDraw cx o rd Q sc288r4 0 [h] [] [] t h d r:=xC_draw (by kernel_rfl)
def sc288r5:List SOp:=[nO (.assign (cI 0)) 5]
def sc288r6:List SOp:=[mvO 5 31,
 mvO 0 32,
 mvO 4 33,
 nO (.indexAddr 60 (T 32) (T 33)) 34,
 faO 375 34 1 35,
 ldO 23 35 36,
 nO (.call {callee:=.builtin .len,args:=#[T 36],argTypes:=#[23]}) 37,
 nO (.binOp .lss 3 (T 31) (T 37) 3) 38]
def sc288r7:List SOp:=[mvO 3 41,
 mvO 0 42,
 mvO 4 43,
 nO (.indexAddr 60 (T 42) (T 43)) 44,
 faO 375 44 1 45,
 ldO 23 45 46,
 mvO 5 47,
 nO (.indexAddr 23 (T 46) (T 47)) 48,
 ldO 3 48 49,
 nO (cF 147 #[(T 49),(cI 4)] #[3,3]) 50,
 nO (.binOp .add 9 (T 41) (T 50) 9) 51,
 asO 51 3]
def sc288r8:List SOp:=[mvO 5 39,
 nO (.binOp .add 3 (T 39) (cI 1) 3) 40,
 asO 40 5]
def sc288l9:SC:=(.seq (.seq (.reg sc288r6) (.cond (T 38) .skip (.exit 2))) (.seq (.block 3 (.reg sc288r7)) (.reg sc288r8)))
def sc288r10:List SOp:=[mvO 4 13,
 nO (.binOp .add 3 (T 13) (cI 1) 3) 14,
 asO 14 4]
def sc288l11:SC:=(.seq (.seq (.reg sc288r3) (.cond (T 12) .skip (.exit 0))) (.seq (.block 1 (.seq sc288d4 (.seq (.reg sc288r5) (.block 2 (.loop sc288l9))))) (.reg sc288r10)))
def sc288r12:List SOp:=[mvO 3 52,
 asO 52 2]
def sc288:SC:=(.seq (.reg sc288r0) (.seq (.reg sc288r1) (.seq (.seq (.reg sc288r2) (.block 0 (.loop sc288l11))) (.seq (.reg sc288r12) .ret))))
theorem ext288:cx.ext 288=none:=by kernel_rfl
theorem ct288:CT 288 53 sc288 [.tmp 2]:=mkCT (fn:=Tryz.f288) (by kernel_rfl) (by kernel_rfl) rfl rfl (by kernel_rfl)
-- understory/understoryref04.Valid
def sc289r0:List SOp:=[nO (.assign cN) 4]
def sc289r1:List SOp:=[mvO 1 6,
 nO (.binOp .lss 3 (T 6) (cI 0) 3) 7,
 mvO 7 8,
 fO 8 (.move (T 1)) 9,
 fO 8 (.binOp .gtr 3 (T 9) (cI 20) 3) 10,
 nO (.pick (T 8) cT (T 10)) 11,
 mvO 11 12,
 fO 12 (.move (T 1)) 13,
 fO 12 (.binOp .eql 3 (T 13) (cI 0) 3) 14,
 fO 12 (.move (T 14)) 15,
 tO 15 (.move (T 0)) 16,
 tO 15 (.call {callee:=.builtin .len,args:=#[T 16],argTypes:=#[59]}) 17,
 tO 15 (.binOp .lss 3 (T 17) (cI 1) 3) 18,
 fO 12 (.pick (T 15) (T 18) cN) 19,
 nO (.pick (T 12) cT (T 19)) 20,
 mvO 20 21,
 fO 21 (.move (T 1)) 22,
 fO 21 (.binOp .gtr 3 (T 22) (cI 0) 3) 23,
 fO 21 (.move (T 23)) 24,
 tO 24 (.move (T 0)) 25,
 tO 24 (.call {callee:=.builtin .len,args:=#[T 25],argTypes:=#[59]}) 26,
 tO 24 (.binOp .lss 3 (T 26) (cI 2) 3) 27,
 tO 24 (.move (T 27)) 28,
 fO 28 (.move (T 0)) 29,
 fO 28 (.indexAddr 59 (T 29) (cI 0)) 30,
 fO 28 (.fieldAddr 64 (T 30) 0) 31,
 fO 28 (.load 9 (T 31)) 32,
 fO 28 (.binOp .neq 9 (T 32) (.const (.string (ByteArray.mk #[]))) 9) 33,
 tO 24 (.pick (T 28) cT (T 33)) 34,
 fO 21 (.pick (T 24) (T 34) cN) 35,
 nO (.pick (T 21) cT (T 35)) 36]
def sc289r2:List SOp:=[nO (.assign cN) 4]
def sc289r3:List SOp:=[nO (.assign (cI 0)) 5]
def sc289r4:List SOp:=[mvO 5 37,
 mvO 0 38,
 nO (.call {callee:=.builtin .len,args:=#[T 38],argTypes:=#[59]}) 39,
 nO (.binOp .lss 3 (T 37) (T 39) 3) 40]
def sc289r5:List SOp:=[mvO 1 43,
 nO (.binOp .eql 3 (T 43) (cI 0) 3) 44,
 mvO 44 45,
 tO 45 (.move (T 0)) 46,
 tO 45 (.move (T 5)) 47,
 tO 45 (.indexAddr 59 (T 46) (T 47)) 48,
 tO 45 (.load 64 (T 48)) 49,
 tO 45 (cF 329 #[T 49] #[64]) 50,
 tO 45 (.unOp .not 4 (T 50)) 51,
 nO (.pick (T 45) (T 51) cN) 52,
 mvO 52 53,
 fO 53 (.move (T 1)) 54,
 fO 53 (.binOp .gtr 3 (T 54) (cI 0) 3) 55,
 fO 53 (.move (T 55)) 56,
 tO 56 (.move (T 0)) 57,
 tO 56 (.move (T 5)) 58,
 tO 56 (.indexAddr 59 (T 57) (T 58)) 59,
 tO 56 (.load 64 (T 59)) 60,
 tO 56 (cF 330 #[T 60] #[64]) 61,
 tO 56 (.unOp .not 4 (T 61)) 62,
 fO 53 (.pick (T 56) (T 62) cN) 63,
 nO (.pick (T 53) cT (T 63)) 64]
def sc289r6:List SOp:=[nO (.assign cN) 4]
def sc289r7:List SOp:=[mvO 1 65,
 nO (.binOp .gtr 3 (T 65) (cI 0) 3) 66,
 mvO 66 67,
 tO 67 (.move (T 5)) 68,
 tO 67 (.binOp .gtr 3 (T 68) (cI 0) 3) 69,
 nO (.pick (T 67) (T 69) cN) 70,
 mvO 70 71,
 tO 71 (.move (T 0)) 72,
 tO 71 (.move (T 5)) 73,
 tO 71 (.indexAddr 59 (T 72) (T 73)) 74,
 tO 71 (.fieldAddr 64 (T 74) 0) 75,
 tO 71 (.load 9 (T 75)) 76,
 tO 71 (.call {callee:=.builtin .len,args:=#[T 76],argTypes:=#[9]}) 77,
 tO 71 (.binOp .lss 3 (T 77) (cI 1) 3) 78,
 tO 71 (.move (T 78)) 79,
 fO 79 (.move (T 0)) 80,
 fO 79 (.move (T 5)) 81,
 fO 79 (.indexAddr 59 (T 80) (T 81)) 82,
 fO 79 (.fieldAddr 64 (T 82) 0) 83,
 fO 79 (.load 9 (T 83)) 84,
 fO 79 (.call {callee:=.builtin .len,args:=#[T 84],argTypes:=#[9]}) 85,
 fO 79 (.binOp .gtr 3 (T 85) (cI 48) 3) 86,
 tO 71 (.pick (T 79) cT (T 86)) 87,
 nO (.pick (T 71) (T 87) cN) 88]
def sc289r8:List SOp:=[nO (.assign cN) 4]
def sc289r9:List (SOp×DK):=[(nO (.move (T 5)) 89,.L 0 0 []),
 (nO (.binOp .gtr 3 (T 89) (cI 0) 3) 90,.L 0 0 []),
 (nO (.move (T 90)) 91,.L 0 0 []),
 (tO 91 (.move (T 0)) 92,.L 0 0 []),
 (tO 91 (.move (T 5)) 93,.L 0 0 []),
 (tO 91 (.indexAddr 59 (T 92) (T 93)) 94,.L 0 0 []),
 (tO 91 (.fieldAddr 64 (T 94) 0) 95,.L 0 0 []),
 (tO 91 (.load 9 (T 95)) 96,.L 0 0 []),
 (tO 91 (.move (T 0)) 97,.L 0 0 []),
 (tO 91 (.move (T 5)) 98,.L 0 0 []),
 (tO 91 (.binOp .sub 3 (T 98) (cI 1) 3) 99,.L 0 0 []),
 (tO 91 (.indexAddr 59 (T 97) (T 99)) 100,.L 0 0 []),
 (tO 91 (.fieldAddr 64 (T 100) 0) 101,.L 0 0 []),
 (tO 91 (.load 9 (T 101)) 102,.L 0 0 []),
 (tO 91 (.binOp .leq 9 (T 96) (T 102) 9) 103,.L 0 0 []),
 (nO (.pick (T 91) (T 103) cN) 104,.L 0 0 [])]
def sc289d9:SC:=.draw sc289r9
theorem sc289d9_x{o rd Q t h d r}:xC cx o rd sc289d9 Q t h d r=xDraw cx o rd Q sc289r9 0 [h] [] [] t h d r:=xC_draw (by kernel_rfl)
def sc289r10:List SOp:=[nO (.assign cN) 4]
def sc289r11:List SOp:=[mvO 5 41,
 nO (.binOp .add 3 (T 41) (cI 1) 3) 42,
 asO 42 5]
def sc289l12:SC:=(.seq (.seq (.reg sc289r4) (.cond (T 40) .skip (.exit 0))) (.seq (.block 1 (.seq (.seq (.reg sc289r5) (.cond (T 64) (.seq (.reg sc289r6) .ret) .skip)) (.seq (.seq (.reg sc289r7) (.cond (T 88) (.seq (.reg sc289r8) .ret) .skip)) (.seq sc289d9 (.cond (T 104) (.seq (.reg sc289r10) .ret) .skip))))) (.reg sc289r11)))
def sc289r13:List SOp:=[nO (.assign cT) 4]
def sc289:SC:=(.seq (.reg sc289r0) (.seq (.seq (.reg sc289r1) (.cond (T 36) (.seq (.reg sc289r2) .ret) .skip)) (.seq (.seq (.reg sc289r3) (.block 0 (.loop sc289l12))) (.seq (.reg sc289r13) .ret))))
theorem ext289:cx.ext 289=none:=by kernel_rfl
theorem ct289:CT 289 105 sc289 [.tmp 4]:=mkCT (fn:=Tryz.f289) (by kernel_rfl) (by kernel_rfl) rfl rfl (by kernel_rfl)
-- understory/page.weigh
def sc321r0:List SOp:=[nO (.box 64 (T 0)) 2,
 nO (.assign (cI 0)) 4,
 nO (.assign cN) 5]
def sc321r1:List SOp:=[mvO 1 6,
 nO (.binOp .gtr 3 (T 6) (cI 0) 3) 7]
def sc321r2:List (SOp×DK):=[(nO (.fieldAddr 64 (T 2) 0) 8,.L 0 1 []),
 (nO (.load 9 (T 8)) 9,.L 0 1 []),
 (nO (.call {callee:=.builtin .len,args:=#[T 9],argTypes:=#[9]}) 10,.L 0 1 []),
 (nO (.binOp .add 3 (T 10) (cI 27) 3) 11,.L 0 1 []),
 (nO (.load 64 (T 2)) 12,.L 0 0 []),
 (nO (cF 234 #[T 12] #[64]) 13,.A [8,9,10,11,12,13] [8,9,10,11]),
 (nO (.assign (T 11)) 4,.L 1 1 []),
 (nO (.assign (T 13)) 5,.L 1 1 [])]
def sc321d2:SC:=.draw sc321r2
theorem sc321d2_x{o rd Q t h d r}:xC cx o rd sc321d2 Q t h d r=xDraw cx o rd Q sc321r2 0 [h] [] [] t h d r:=xC_draw (by kernel_rfl)
def sc321r3:List SOp:=[ldO 64 2 14,
 nO (cF 233 #[T 14] #[64]) 15]
def sc321r4:List SOp:=[nO (.binOp .eql 328 (T 15) (cI 1) 328) 17,
 asO 17 16]
def sc321r5:List SOp:=[faO 64 2 0 18,
 ldO 9 18 19,
 nO (.call {callee:=.builtin .len,args:=#[T 19],argTypes:=#[9]}) 20,
 faO 64 2 1 21,
 ldO 9 21 22,
 nO (.call {callee:=.builtin .len,args:=#[T 22],argTypes:=#[9]}) 23,
 nO (.binOp .add 3 (T 20) (T 23) 3) 24,
 nO (.binOp .add 3 (T 24) (cI 5) 3) 25,
 asO 25 4,
 nO (.assign cT) 5]
def sc321r6:List SOp:=[nO (.binOp .eql 328 (T 15) (cI 2) 328) 27,
 asO 27 26]
def sc321r7:List SOp:=[faO 64 2 0 28,
 ldO 9 28 29,
 nO (.call {callee:=.builtin .len,args:=#[T 29],argTypes:=#[9]}) 30,
 nO (.binOp .add 3 (T 30) (cI 27) 3) 31,
 asO 31 4,
 nO (.assign cT) 5]
def sc321r8:List SOp:=[nO (.binOp .eql 328 (T 15) (cI 3) 328) 33,
 asO 33 32]
def sc321r9:List SOp:=[faO 64 2 0 34,
 ldO 9 34 35,
 nO (.call {callee:=.builtin .len,args:=#[T 35],argTypes:=#[9]}) 36,
 nO (.binOp .add 3 (T 36) (cI 29) 3) 37,
 asO 37 4,
 nO (.assign cT) 5]
def sc321r10:List SOp:=[nO (.assign (cI 0)) 4,
 nO (.assign cN) 5]
def sc321:SC:=(.seq (.reg sc321r0) (.seq (.seq (.reg sc321r1) (.cond (T 7) (.seq sc321d2 .ret) .skip)) (.seq (.seq (.reg sc321r3) (.block 0 (.seq (.reg sc321r4) (.cond (T 16) (.seq (.reg sc321r5) .ret) (.seq (.reg sc321r6) (.cond (T 26) (.seq (.reg sc321r7) .ret) (.seq (.reg sc321r8) (.cond (T 32) (.seq (.reg sc321r9) .ret) .skip)))))))) (.seq (.reg sc321r10) .ret))))
theorem ext321:cx.ext 321=none:=by kernel_rfl
theorem ct321:CT 321 38 sc321 [.tmp 4,.tmp 5]:=mkCT (fn:=Tryz.f321) (by kernel_rfl) (by kernel_rfl) rfl rfl (by kernel_rfl)
-- cmp.isNaN[string]
def sc322r0:List SOp:=[nO (.assign cN) 2]
def sc322r1:List SOp:=[mvO 0 3,
 mvO 0 4,
 nO (.binOp .neq 9 (T 3) (T 4) 9) 5,
 asO 5 2]
def sc322:SC:=(.seq (.reg sc322r0) (.seq (.reg sc322r1) .ret))
theorem ext322:cx.ext 322=none:=by kernel_rfl
theorem ct322:CT 322 6 sc322 [.tmp 2]:=mkCT (fn:=Tryz.f322) (by kernel_rfl) (by kernel_rfl) rfl rfl (by kernel_rfl)
-- understory/understoryref04.Weight
def sc328r0:List SOp:=[nO (.alloc 419) 4]
def sc328r1:List SOp:=[mvO 1 7,
 nO (.binOp .lss 3 (T 7) (cI 0) 3) 8,
 mvO 8 9,
 fO 9 (.move (T 1)) 10,
 fO 9 (.binOp .gtr 3 (T 10) (cI 20) 3) 11,
 nO (.pick (T 9) cT (T 11)) 12]
def sc328r2:List SOp:=[nO (.build 419 #[(1,(cI 2))]) 13,
 ⟨none,.store 419 (T 4) (T 13),none⟩]
def sc328r3:List SOp:=[nO (.assign (cI 6)) 5]
def sc328r4:List SOp:=[nO (.assign (cI 0)) 6]
def sc328r5:List SOp:=[mvO 6 14,
 mvO 0 15,
 nO (.call {callee:=.builtin .len,args:=#[T 15],argTypes:=#[59]}) 16,
 nO (.binOp .lss 3 (T 14) (T 16) 3) 17]
def sc328r6:List SOp:=[mvO 1 20,
 nO (.binOp .eql 3 (T 20) (cI 0) 3) 21,
 mvO 21 22,
 tO 22 (.move (T 0)) 23,
 tO 22 (.move (T 6)) 24,
 tO 22 (.indexAddr 59 (T 23) (T 24)) 25,
 tO 22 (.load 64 (T 25)) 26,
 tO 22 (cF 329 #[T 26] #[64]) 27,
 tO 22 (.unOp .not 4 (T 27)) 28,
 nO (.pick (T 22) (T 28) cN) 29,
 mvO 29 30,
 fO 30 (.move (T 1)) 31,
 fO 30 (.binOp .gtr 3 (T 31) (cI 0) 3) 32,
 fO 30 (.move (T 32)) 33,
 tO 33 (.move (T 0)) 34,
 tO 33 (.move (T 6)) 35,
 tO 33 (.indexAddr 59 (T 34) (T 35)) 36,
 tO 33 (.load 64 (T 36)) 37,
 tO 33 (cF 330 #[T 37] #[64]) 38,
 tO 33 (.unOp .not 4 (T 38)) 39,
 tO 33 (.move (T 39)) 40,
 fO 40 (.move (T 0)) 41,
 fO 40 (.move (T 6)) 42,
 fO 40 (.indexAddr 59 (T 41) (T 42)) 43,
 fO 40 (.fieldAddr 64 (T 43) 0) 44,
 fO 40 (.load 9 (T 44)) 45,
 fO 40 (.call {callee:=.builtin .len,args:=#[T 45],argTypes:=#[9]}) 46,
 fO 40 (.binOp .gtr 3 (T 46) (cI 48) 3) 47,
 tO 33 (.pick (T 40) cT (T 47)) 48,
 fO 30 (.pick (T 33) (T 48) cN) 49,
 nO (.pick (T 30) cT (T 49)) 50]
def sc328r7:List SOp:=[nO (.build 419 #[(1,(cI 2))]) 51,
 ⟨none,.store 419 (T 4) (T 51),none⟩]
def sc328r8:List (SOp×DK):=[(nO (.move (T 5)) 52,.L 0 1 []),
 (nO (.binOp .add 3 (T 52) (cI 2) 3) 53,.L 0 1 []),
 (nO (.binOp .add 3 (T 53) (cI 1) 3) 54,.L 0 1 []),
 (nO (.move (T 0)) 55,.L 0 1 []),
 (nO (.move (T 6)) 56,.L 0 1 []),
 (nO (.indexAddr 59 (T 55) (T 56)) 57,.L 0 1 []),
 (nO (.fieldAddr 64 (T 57) 0) 58,.L 0 1 []),
 (nO (.load 9 (T 58)) 59,.L 0 1 []),
 (nO (.call {callee:=.builtin .len,args:=#[T 59],argTypes:=#[9]}) 60,.L 0 1 []),
 (nO (.binOp .add 3 (T 54) (T 60) 3) 61,.L 0 1 []),
 (nO (.move (T 0)) 62,.L 0 0 []),
 (nO (.move (T 6)) 63,.L 0 0 []),
 (nO (.indexAddr 59 (T 62) (T 63)) 64,.L 0 0 []),
 (nO (.load 64 (T 64)) 65,.L 0 0 []),
 (nO (.move (T 1)) 66,.L 0 0 []),
 (nO (cF 362 #[T 65,(T 66)] #[64,3]) 67,.A [52,53,54,55,56,57,58,59,60,61,62,63,64,65,66,67] [52,53,54,55,56,57,58,59,60,61]),
 (nO (.call {callee:=.builtin .len,args:=#[T 67],argTypes:=#[9]}) 68,.L 1 1 []),
 (nO (.binOp .add 3 (T 61) (T 68) 3) 69,.L 1 1 []),
 (nO (.assign (T 69)) 5,.L 1 1 [])]
def sc328d8:SC:=.draw sc328r8
theorem sc328d8_x{o rd Q t h d r}:xC cx o rd sc328d8 Q t h d r=xDraw cx o rd Q sc328r8 0 [h] [] [] t h d r:=xC_draw (by kernel_rfl)
def sc328r9:List SOp:=[mvO 6 18,
 nO (.binOp .add 3 (T 18) (cI 1) 3) 19,
 asO 19 6]
def sc328l10:SC:=(.seq (.seq (.reg sc328r5) (.cond (T 17) .skip (.exit 0))) (.seq (.block 1 (.seq (.seq (.reg sc328r6) (.cond (T 50) (.seq (.reg sc328r7) .ret) .skip)) sc328d8)) (.reg sc328r9)))
def sc328r11:List SOp:=[mvO 5 70,
 nO (.build 419 #[(0,(T 70))]) 71,
 ⟨none,.store 419 (T 4) (T 71),none⟩]
def sc328:SC:=(.seq (.reg sc328r0) (.seq (.seq (.reg sc328r1) (.cond (T 12) (.seq (.reg sc328r2) .ret) .skip)) (.seq (.reg sc328r3) (.seq (.seq (.reg sc328r4) (.block 0 (.loop sc328l10))) (.seq (.reg sc328r11) .ret)))))
theorem ext328:cx.ext 328=none:=by kernel_rfl
theorem ct328:CT 328 72 sc328 [.cell 4 419]:=mkCT (fn:=Tryz.f328) (by kernel_rfl) (by kernel_rfl) rfl rfl (by kernel_rfl)
-- understory/understoryref04.leafEntry
def sc329r0:List SOp:=[nO (.box 64 (T 0)) 1,
 nO (.assign cN) 2]
def sc329r1:List SOp:=[faO 64 1 0 3,
 ldO 9 3 4,
 nO (.call {callee:=.builtin .len,args:=#[T 4],argTypes:=#[9]}) 5,
 nO (.binOp .lss 3 (T 5) (cI 1) 3) 6,
 mvO 6 7,
 fO 7 (.fieldAddr 64 (T 1) 0) 8,
 fO 7 (.load 9 (T 8)) 9,
 fO 7 (.call {callee:=.builtin .len,args:=#[T 9],argTypes:=#[9]}) 10,
 fO 7 (.binOp .gtr 3 (T 10) (cI 48) 3) 11,
 nO (.pick (T 7) cT (T 11)) 12]
def sc329r2:List SOp:=[nO (.assign cN) 2]
def sc329r3:List SOp:=[faO 64 1 4 13,
 ldO 3 13 14,
 nO (.binOp .neq 3 (T 14) (cI 0) 3) 15]
def sc329r4:List SOp:=[faO 64 1 4 16,
 ldO 3 16 17,
 nO (cF 283 #[T 17] #[3]) 18,
 mvO 18 19,
 tO 19 (.fieldAddr 64 (T 1) 5) 20,
 tO 19 (.load 3 (T 20)) 21,
 tO 19 (cF 363 #[T 21] #[3]) 22,
 nO (.pick (T 19) (T 22) cN) 23,
 mvO 23 24,
 tO 24 (.fieldAddr 64 (T 1) 1) 25,
 tO 24 (.load 9 (T 25)) 26,
 tO 24 (.binOp .eql 9 (T 26) (.const (.string (ByteArray.mk #[]))) 9) 27,
 nO (.pick (T 24) (T 27) cN) 28,
 mvO 28 29,
 tO 29 (.fieldAddr 64 (T 1) 2) 30,
 tO 29 (.load 3 (T 30)) 31,
 tO 29 (.binOp .eql 3 (T 31) (cI 0) 3) 32,
 nO (.pick (T 29) (T 32) cN) 33,
 mvO 33 34,
 tO 34 (.fieldAddr 64 (T 1) 3) 35,
 tO 34 (.load 3 (T 35)) 36,
 tO 34 (.binOp .eql 3 (T 36) (cI 0) 3) 37,
 nO (.pick (T 34) (T 37) cN) 38,
 asO 38 2]
def sc329r5:List SOp:=[faO 64 1 2 39,
 ldO 3 39 40,
 nO (.binOp .neq 3 (T 40) (cI 0) 3) 41]
def sc329r6:List SOp:=[faO 64 1 2 42,
 ldO 3 42 43,
 nO (cF 283 #[T 43] #[3]) 44,
 mvO 44 45,
 tO 45 (.fieldAddr 64 (T 1) 3) 46,
 tO 45 (.load 3 (T 46)) 47,
 tO 45 (.binOp .gtr 3 (T 47) (cI 64) 3) 48,
 nO (.pick (T 45) (T 48) cN) 49,
 mvO 49 50,
 tO 50 (.fieldAddr 64 (T 1) 3) 51,
 tO 50 (.load 3 (T 51)) 52,
 tO 50 (.binOp .leq 3 (T 52) (cI 4000) 3) 53,
 nO (.pick (T 50) (T 53) cN) 54,
 mvO 54 55,
 tO 55 (.fieldAddr 64 (T 1) 1) 56,
 tO 55 (.load 9 (T 56)) 57,
 tO 55 (.binOp .eql 9 (T 57) (.const (.string (ByteArray.mk #[]))) 9) 58,
 nO (.pick (T 55) (T 58) cN) 59,
 mvO 59 60,
 tO 60 (.fieldAddr 64 (T 1) 5) 61,
 tO 60 (.load 3 (T 61)) 62,
 tO 60 (.binOp .eql 3 (T 62) (cI 0) 3) 63,
 nO (.pick (T 60) (T 63) cN) 64,
 asO 64 2]
def sc329r7:List SOp:=[faO 64 1 1 65,
 ldO 9 65 66,
 nO (.call {callee:=.builtin .len,args:=#[T 66],argTypes:=#[9]}) 67,
 nO (.binOp .leq 3 (T 67) (cI 64) 3) 68,
 mvO 68 69,
 tO 69 (.fieldAddr 64 (T 1) 3) 70,
 tO 69 (.load 3 (T 70)) 71,
 tO 69 (.binOp .eql 3 (T 71) (cI 0) 3) 72,
 nO (.pick (T 69) (T 72) cN) 73,
 mvO 73 74,
 tO 74 (.fieldAddr 64 (T 1) 5) 75,
 tO 74 (.load 3 (T 75)) 76,
 tO 74 (.binOp .eql 3 (T 76) (cI 0) 3) 77,
 nO (.pick (T 74) (T 77) cN) 78,
 mvO 78 79,
 tO 79 (.fieldAddr 64 (T 1) 6) 80,
 tO 79 (.load 27 (T 80)) 81,
 tO 79 (.build 27 #[]) 82,
 tO 79 (.binOp .eql 27 (T 81) (T 82) 27) 83,
 nO (.pick (T 79) (T 83) cN) 84,
 asO 84 2]
def sc329:SC:=(.seq (.reg sc329r0) (.seq (.seq (.reg sc329r1) (.cond (T 12) (.seq (.reg sc329r2) .ret) .skip)) (.seq (.seq (.reg sc329r3) (.cond (T 15) (.seq (.reg sc329r4) .ret) .skip)) (.seq (.seq (.reg sc329r5) (.cond (T 41) (.seq (.reg sc329r6) .ret) .skip)) (.seq (.reg sc329r7) .ret)))))
theorem ext329:cx.ext 329=none:=by kernel_rfl
theorem ct329:CT 329 85 sc329 [.tmp 2]:=mkCT (fn:=Tryz.f329) (by kernel_rfl) (by kernel_rfl) rfl rfl (by kernel_rfl)
-- understory/understoryref04.branchEntry
def sc330r0:List SOp:=[nO (.box 64 (T 0)) 1,
 nO (.assign cN) 2]
def sc330r1:List SOp:=[faO 64 1 4 3,
 ldO 3 3 4,
 nO (cF 283 #[T 4] #[3]) 5,
 mvO 5 6,
 tO 6 (.fieldAddr 64 (T 1) 5) 7,
 tO 6 (.load 3 (T 7)) 8,
 tO 6 (cF 363 #[T 8] #[3]) 9,
 nO (.pick (T 6) (T 9) cN) 10,
 mvO 10 11,
 tO 11 (.fieldAddr 64 (T 1) 1) 12,
 tO 11 (.load 9 (T 12)) 13,
 tO 11 (.binOp .eql 9 (T 13) (.const (.string (ByteArray.mk #[]))) 9) 14,
 nO (.pick (T 11) (T 14) cN) 15,
 mvO 15 16,
 tO 16 (.fieldAddr 64 (T 1) 2) 17,
 tO 16 (.load 3 (T 17)) 18,
 tO 16 (.binOp .eql 3 (T 18) (cI 0) 3) 19,
 nO (.pick (T 16) (T 19) cN) 20,
 mvO 20 21,
 tO 21 (.fieldAddr 64 (T 1) 3) 22,
 tO 21 (.load 3 (T 22)) 23,
 tO 21 (.binOp .eql 3 (T 23) (cI 0) 3) 24,
 nO (.pick (T 21) (T 24) cN) 25,
 asO 25 2]
def sc330:SC:=(.seq (.reg sc330r0) (.seq (.reg sc330r1) .ret))
theorem ext330:cx.ext 330=none:=by kernel_rfl
theorem ct330:CT 330 26 sc330 [.tmp 2]:=mkCT (fn:=Tryz.f330) (by kernel_rfl) (by kernel_rfl) rfl rfl (by kernel_rfl)
-- understory/understoryref04.rest
def sc362r0:List SOp:=[nO (.box 64 (T 0)) 2,
 nO (.assign (.const (.string (ByteArray.mk #[])))) 4]
def sc362r1:List SOp:=[mvO 1 5,
 nO (.binOp .gtr 3 (T 5) (cI 0) 3) 6]
def sc362r2:List (SOp×DK):=[(nO (.fieldAddr 64 (T 2) 4) 7,.L 0 0 []),
 (nO (.load 3 (T 7)) 8,.L 0 0 []),
 (nO (cF 147 #[(T 8),(cI 4)] #[3,3]) 9,.A [7,8,9,10,11,14,15] [10,11,14,15]),
 (nO (.fieldAddr 64 (T 2) 5) 10,.L 0 1 []),
 (nO (.load 3 (T 10)) 11,.L 0 1 []),
 (nO (cF 147 #[(T 11),(cI 4)] #[3,3]) 12,.A [7,8,9,10,11,12,14,15] [14,15]),
 (nO (.binOp .add 9 (T 9) (T 12) 9) 13,.L 2 3 []),
 (nO (.fieldAddr 64 (T 2) 6) 14,.L 0 2 []),
 (nO (.load 27 (T 14)) 15,.L 0 2 []),
 (nO (cF 364 #[T 15] #[27]) 16,.A [7,8,9,10,11,12,13,14,15,16] [13]),
 (nO (.binOp .add 9 (T 13) (T 16) 9) 17,.L 3 3 []),
 (nO (.assign (T 17)) 4,.L 3 3 [])]
def sc362d2:SC:=.draw sc362r2
theorem sc362d2_x{o rd Q t h d r}:xC cx o rd sc362d2 Q t h d r=xDraw cx o rd Q sc362r2 0 [h] [] [] t h d r:=xC_draw (by kernel_rfl)
def sc362r3:List SOp:=[faO 64 2 4 18,
 ldO 3 18 19,
 nO (.binOp .neq 3 (T 19) (cI 0) 3) 20]
def sc362r4:List (SOp×DK):=[(nO (cF 147 #[(cI 65534),(cI 2)] #[3,3]) 21,.A [21,22,23,26,27,30,31] [22,23,26,27,30,31]),
 (nO (.fieldAddr 64 (T 2) 4) 22,.L 0 1 []),
 (nO (.load 3 (T 22)) 23,.L 0 1 []),
 (nO (cF 147 #[(T 23),(cI 4)] #[3,3]) 24,.A [21,22,23,24,26,27,30,31] [26,27,30,31]),
 (nO (.binOp .add 9 (T 21) (T 24) 9) 25,.L 2 4 []),
 (nO (.fieldAddr 64 (T 2) 5) 26,.L 0 2 []),
 (nO (.load 3 (T 26)) 27,.L 0 2 []),
 (nO (cF 147 #[(T 27),(cI 4)] #[3,3]) 28,.A [21,22,23,24,25,26,27,28,30,31] [25,30,31]),
 (nO (.binOp .add 9 (T 25) (T 28) 9) 29,.L 3 4 []),
 (nO (.fieldAddr 64 (T 2) 6) 30,.L 0 3 []),
 (nO (.load 27 (T 30)) 31,.L 0 3 []),
 (nO (cF 364 #[T 31] #[27]) 32,.A [21,22,23,24,25,26,27,28,29,30,31,32] [25,29]),
 (nO (.binOp .add 9 (T 29) (T 32) 9) 33,.L 4 4 []),
 (nO (.assign (T 33)) 4,.L 4 4 [])]
def sc362d4:SC:=.draw sc362r4
theorem sc362d4_x{o rd Q t h d r}:xC cx o rd sc362d4 Q t h d r=xDraw cx o rd Q sc362r4 0 [h] [] [] t h d r:=xC_draw (by kernel_rfl)
def sc362r5:List SOp:=[faO 64 2 2 34,
 ldO 3 34 35,
 nO (.binOp .neq 3 (T 35) (cI 0) 3) 36]
def sc362r6:List (SOp×DK):=[(nO (cF 147 #[(cI 65535),(cI 2)] #[3,3]) 37,.A [37,38,39,42,43,46,47] [38,39,42,43,46,47]),
 (nO (.fieldAddr 64 (T 2) 2) 38,.L 0 1 []),
 (nO (.load 3 (T 38)) 39,.L 0 1 []),
 (nO (cF 147 #[(T 39),(cI 4)] #[3,3]) 40,.A [37,38,39,40,42,43,46,47] [42,43,46,47]),
 (nO (.binOp .add 9 (T 37) (T 40) 9) 41,.L 2 4 []),
 (nO (.fieldAddr 64 (T 2) 3) 42,.L 0 2 []),
 (nO (.load 3 (T 42)) 43,.L 0 2 []),
 (nO (cF 147 #[(T 43),(cI 2)] #[3,3]) 44,.A [37,38,39,40,41,42,43,44,46,47] [41,46,47]),
 (nO (.binOp .add 9 (T 41) (T 44) 9) 45,.L 3 4 []),
 (nO (.fieldAddr 64 (T 2) 6) 46,.L 0 3 []),
 (nO (.load 27 (T 46)) 47,.L 0 3 []),
 (nO (cF 364 #[T 47] #[27]) 48,.A [37,38,39,40,41,42,43,44,45,46,47,48] [41,45]),
 (nO (.binOp .add 9 (T 45) (T 48) 9) 49,.L 4 4 []),
 (nO (.assign (T 49)) 4,.L 4 4 [])]
def sc362d6:SC:=.draw sc362r6
theorem sc362d6_x{o rd Q t h d r}:xC cx o rd sc362d6 Q t h d r=xDraw cx o rd Q sc362r6 0 [h] [] [] t h d r:=xC_draw (by kernel_rfl)
def sc362r7:List (SOp×DK):=[(nO (.fieldAddr 64 (T 2) 1) 50,.L 0 0 []),
 (nO (.load 9 (T 50)) 51,.L 0 0 []),
 (nO (.call {callee:=.builtin .len,args:=#[T 51],argTypes:=#[9]}) 52,.L 0 0 []),
 (nO (cF 147 #[(T 52),(cI 2)] #[3,3]) 53,.A [50,51,52,53,54,55] [54,55]),
 (nO (.fieldAddr 64 (T 2) 1) 54,.L 0 1 []),
 (nO (.load 9 (T 54)) 55,.L 0 1 []),
 (nO (.binOp .add 9 (T 53) (T 55) 9) 56,.L 1 1 []),
 (nO (.assign (T 56)) 4,.L 1 1 [])]
def sc362d7:SC:=.draw sc362r7
theorem sc362d7_x{o rd Q t h d r}:xC cx o rd sc362d7 Q t h d r=xDraw cx o rd Q sc362r7 0 [h] [] [] t h d r:=xC_draw (by kernel_rfl)
def sc362:SC:=(.seq (.reg sc362r0) (.seq (.seq (.reg sc362r1) (.cond (T 6) (.seq sc362d2 .ret) .skip)) (.seq (.seq (.reg sc362r3) (.cond (T 20) (.seq sc362d4 .ret) .skip)) (.seq (.seq (.reg sc362r5) (.cond (T 36) (.seq sc362d6 .ret) .skip)) (.seq sc362d7 .ret)))))
theorem ext362:cx.ext 362=none:=by kernel_rfl
theorem ct362:CT 362 57 sc362 [.tmp 4]:=mkCT (fn:=Tryz.f362) (by kernel_rfl) (by kernel_rfl) rfl rfl (by kernel_rfl)
-- understory/understoryref04.count
def sc363r0:List SOp:=[nO (.assign cN) 2]
def sc363r1:List SOp:=[mvO 0 3,
 nO (.binOp .geq 3 (T 3) (cI 1) 3) 4,
 mvO 4 5,
 tO 5 (.move (T 0)) 6,
 tO 5 (.binOp .leq 3 (T 6) (cI 2147483647) 3) 7,
 nO (.pick (T 5) (T 7) cN) 8,
 asO 8 2]
def sc363:SC:=(.seq (.reg sc363r0) (.seq (.reg sc363r1) .ret))
theorem ext363:cx.ext 363=none:=by kernel_rfl
theorem ct363:CT 363 9 sc363 [.tmp 2]:=mkCT (fn:=Tryz.f363) (by kernel_rfl) (by kernel_rfl) rfl rfl (by kernel_rfl)
-- understory/understoryref04.sum
def sc364r0:List SOp:=[nO (.box 27 (T 0)) 1,
 nO (.assign (.const (.string (ByteArray.mk #[])))) 2]
def sc364r1:List SOp:=[nO (.slice 27 (T 1) none none none) 3,
 nO (.convert 117 9 (T 3)) 4,
 asO 4 2]
def sc364:SC:=(.seq (.reg sc364r0) (.seq (.reg sc364r1) .ret))
theorem ext364:cx.ext 364=none:=by kernel_rfl
theorem ct364:CT 364 5 sc364 [.tmp 2]:=mkCT (fn:=Tryz.f364) (by kernel_rfl) (by kernel_rfl) rfl rfl (by kernel_rfl)
theorem fa0(k:Nat):fieldAddr? cx 25 (.ptr k 0) 0=some (.ptr k 0):=fieldAddr_ptr (m:=0) f25_0 s22
theorem fa1(k:Nat):fieldAddr? cx 25 (.ptr k 0) 1=some (.ptr k 1):=fieldAddr_ptr (m:=0) f25_1 s23
theorem fa2(k:Nat):fieldAddr? cx 25 (.ptr k 0) 2=some (.ptr k 2):=fieldAddr_ptr (m:=0) f25_2 s23
theorem fa3(k:Nat):fieldAddr? cx 25 (.ptr k 0) 3=some (.ptr k 3):=fieldAddr_ptr (m:=0) f25_3 s23
theorem fa4(k:Nat):fieldAddr? cx 25 (.ptr k 0) 4=some (.ptr k 4):=fieldAddr_ptr (m:=0) f25_4 s3
theorem fa5(k:Nat):fieldAddr? cx 25 (.ptr k 0) 5=some (.ptr k 5):=fieldAddr_ptr (m:=0) f25_5 s3
theorem fA(k:Nat):fieldAddr? cx 257 (.ptr k 0) 0=some (.ptr k 0):=fieldAddr_ptr (m:=5) f257_0 s25
theorem fb0(k:Nat):fieldAddr? cx 164 (.ptr k 0) 0=some (.ptr k 0):=fieldAddr_ptr (m:=5) f164_0 s25
theorem fb1(k:Nat):fieldAddr? cx 164 (.ptr k 0) 1=some (.ptr k 6):=fieldAddr_ptr (m:=0) f164_1 s36
def rwE:=And.intro @opW_recover <| And.intro @recW_pan <| And.intro @recW_ret <| And.intro @opW_defer @deferW_fn
def rwF:=And.intro @opD_nilCheck <| And.intro @nilW_ptr <| And.intro @opD_assert <| And.intro @opD_face <| And.intro @opD_slice3 <| And.intro @opD_clear <| And.intro @opD_box <| And.intro @boxW_agg <| And.intro @boxW_pagg @opD_makeSlice
def rwU:=And.intro @u3 <| And.intro @u4 <| And.intro @u5 <| And.intro @u9 <| And.intro @u96 <| And.intro @u36 <| And.intro @u117 <| And.intro @s3 <| And.intro @s4 <| And.intro @s5 <| And.intro @s9 <| And.intro @s96 <| And.intro @s36 <| And.intro @s117 <| And.intro @a3 <| And.intro @a4 <| And.intro @a5 <| And.intro @a9 <| And.intro @a96 <| And.intro @a36 @a117
def rwV:=And.intro @u22 <| And.intro @u23 <| And.intro @s22 <| And.intro @s23 <| And.intro @a22 <| And.intro @a23 <| And.intro @u150 <| And.intro @u258 <| And.intro @s150 <| And.intro @s258 <| And.intro @s25 <| And.intro @a25 <| And.intro @s62 <| And.intro @a62 <| And.intro @s257 @a257
def rwS:=And.intro @rwA @rwE
def rwT:=And.intro @rwB <| And.intro @rwF <| And.intro @rwU @rwV
end Go.Proofs

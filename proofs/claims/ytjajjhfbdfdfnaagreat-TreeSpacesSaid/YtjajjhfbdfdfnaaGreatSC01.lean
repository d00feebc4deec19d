/- What is proved: short code of the functions that the spaces' law calls is their code; facts of types; rules for rewriting. Conditions: none. -/
import Derived.Test.YtjajjhfbdfdfnaaGreatSA10
import Derived.Test.YtjajjhfbdfdfnaaGreatSB01
import Derived.KernelRfl
import Derived.Test.YtjajjhfbdfdfnaaGreatSA11
set_option linter.all false
set_option maxRecDepth 100000
namespace Go.Proofs
open Go Go.Ai
def CT (f n : Nat) (s : SC) (rs : List ResultVar) : Prop := ∀ {o args h P}, o f args h = none → Nat.ble args.length n = true → xC cx o none s (endP cx rs P) (argT args 0 .lf) h [] none → Ct cx o (.fn f args) h P
theorem mkCT {f n s rs} {fn : Func} (h1 : cx.fn f = some fn) (h2 : fn.body.map tr = some s) (h3 : fn.ntmps = n) (h4 : fn.results.toList = rs) (h5 : okS n s = true) : CT f n s rs := fun ho ha => ct_sc h1 h2 h3 h4 ho ha h5
-- (*understory/digest.hasher).block
def sc232r0 : List SOp := [⟨none, .alloc 274, (some 4)⟩]
def sc232r1 : List SOp := [⟨none, .move (.const (.int .i64 0)), (some 22)⟩]
def sc232r2 : List SOp := [⟨none, .binOp .lss 3 (.tmp 22) (.const (.int .i64 64)) 3, (some 23)⟩]
def sc232r3 : List SOp := [mvO 22 24,
 asO 24 5]
def sc232r4 : List SOp := [mvO 5 25,
 ⟨none, .binOp .lss 3 (.tmp 25) (.const (.int .i64 16)) 3, (some 26)⟩]
def sc232r5 : List (SOp × DK) := [(⟨none, .move (.tmp 5), (some 27)⟩, .L 0 0 []),
 (⟨none, .move (.tmp 1), (some 28)⟩, .L 0 0 []),
 (⟨none, .move (.tmp 5), (some 29)⟩, .L 0 0 []),
 (⟨none, .binOp .mul 3 (.const (.int .i64 4)) (.tmp 29) 3, (some 30)⟩, .L 0 0 []),
 (⟨none, .index 9 (.tmp 28) (.tmp 30), (some 31)⟩, .L 0 0 []),
 (⟨none, .convert 5 272 (.tmp 31), (some 32)⟩, .L 0 0 []),
 (⟨none, .binOp .shl 272 (.tmp 32) (.const (.int .u64 24)) 228, (some 33)⟩, .L 0 0 []),
 (⟨none, .move (.tmp 1), (some 34)⟩, .L 0 0 []),
 (⟨none, .move (.tmp 5), (some 35)⟩, .L 0 0 []),
 (⟨none, .binOp .mul 3 (.const (.int .i64 4)) (.tmp 35) 3, (some 36)⟩, .L 0 0 []),
 (⟨none, .binOp .add 3 (.tmp 36) (.const (.int .i64 1)) 3, (some 37)⟩, .L 0 0 []),
 (⟨none, .index 9 (.tmp 34) (.tmp 37), (some 38)⟩, .L 0 0 []),
 (⟨none, .convert 5 272 (.tmp 38), (some 39)⟩, .L 0 0 []),
 (⟨none, .binOp .shl 272 (.tmp 39) (.const (.int .u64 16)) 228, (some 40)⟩, .L 0 0 []),
 (⟨none, .binOp .or 272 (.tmp 33) (.tmp 40) 272, (some 41)⟩, .L 0 0 []),
 (⟨none, .move (.tmp 1), (some 42)⟩, .L 0 0 []),
 (⟨none, .move (.tmp 5), (some 43)⟩, .L 0 0 []),
 (⟨none, .binOp .mul 3 (.const (.int .i64 4)) (.tmp 43) 3, (some 44)⟩, .L 0 0 []),
 (⟨none, .binOp .add 3 (.tmp 44) (.const (.int .i64 2)) 3, (some 45)⟩, .L 0 0 []),
 (⟨none, .index 9 (.tmp 42) (.tmp 45), (some 46)⟩, .L 0 0 []),
 (⟨none, .convert 5 272 (.tmp 46), (some 47)⟩, .L 0 0 []),
 (⟨none, .binOp .shl 272 (.tmp 47) (.const (.int .u64 8)) 228, (some 48)⟩, .L 0 0 []),
 (⟨none, .binOp .or 272 (.tmp 41) (.tmp 48) 272, (some 49)⟩, .L 0 0 []),
 (⟨none, .move (.tmp 1), (some 50)⟩, .L 0 0 []),
 (⟨none, .move (.tmp 5), (some 51)⟩, .L 0 0 []),
 (⟨none, .binOp .mul 3 (.const (.int .i64 4)) (.tmp 51) 3, (some 52)⟩, .L 0 0 []),
 (⟨none, .binOp .add 3 (.tmp 52) (.const (.int .i64 3)) 3, (some 53)⟩, .L 0 0 []),
 (⟨none, .index 9 (.tmp 50) (.tmp 53), (some 54)⟩, .L 0 0 []),
 (⟨none, .convert 5 272 (.tmp 54), (some 55)⟩, .L 0 0 []),
 (⟨none, .binOp .or 272 (.tmp 49) (.tmp 55) 272, (some 56)⟩, .L 0 0 []),
 (⟨none, .indexAddr 274 (.tmp 4) (.tmp 27), (some 57)⟩, .L 0 0 []),
 (⟨none, .store 272 (.tmp 57) (.tmp 56), none⟩, .A [27, 28, 29, 30, 31, 32, 33, 34, 35, 36, 37, 38, 39, 40, 41, 42, 43, 44, 45, 46, 47, 48, 49, 50, 51, 52, 53, 54, 55, 56, 57] [])]
def sc232d5 : SC := .draw sc232r5
theorem sc232d5_x {o rd Q t h d r} : xC cx o rd sc232d5 Q t h d r = xDraw cx o rd Q sc232r5 0 [h] [] [] t h d r := xC_draw (by kernel_rfl)
def sc232r6 : List (SOp × DK) := [(⟨none, .move (.tmp 5), (some 58)⟩, .L 0 0 []),
 (⟨none, .binOp .sub 3 (.tmp 58) (.const (.int .i64 15)) 3, (some 59)⟩, .L 0 0 []),
 (⟨none, .indexAddr 274 (.tmp 4) (.tmp 59), (some 60)⟩, .L 0 0 []),
 (⟨none, .load 272 (.tmp 60), (some 61)⟩, .L 0 0 []),
 (⟨none, .move (.tmp 5), (some 62)⟩, .L 0 0 []),
 (⟨none, .binOp .sub 3 (.tmp 62) (.const (.int .i64 2)) 3, (some 63)⟩, .L 0 0 []),
 (⟨none, .indexAddr 274 (.tmp 4) (.tmp 63), (some 64)⟩, .L 0 0 []),
 (⟨none, .load 272 (.tmp 64), (some 65)⟩, .L 0 0 []),
 (⟨none, .assign (.tmp 61), (some 6)⟩, .L 0 0 []),
 (⟨none, .assign (.tmp 65), (some 7)⟩, .L 0 0 [])]
def sc232d6 : SC := .draw sc232r6
theorem sc232d6_x {o rd Q t h d r} : xC cx o rd sc232d6 Q t h d r = xDraw cx o rd Q sc232r6 0 [h] [] [] t h d r := xC_draw (by kernel_rfl)
def sc232r7 : List SOp := [mvO 6 66,
 ⟨none, .call { callee := .value (.func 260), args := #[(.tmp 66), (.const (.int .i64 (-7)))], argTypes := #[272, 3] }, (some 67)⟩,
 mvO 6 68,
 ⟨none, .call { callee := .value (.func 260), args := #[(.tmp 68), (.const (.int .i64 (-18)))], argTypes := #[272, 3] }, (some 69)⟩,
 ⟨none, .binOp .xor 272 (.tmp 67) (.tmp 69) 272, (some 70)⟩,
 mvO 6 71,
 ⟨none, .binOp .shr 272 (.tmp 71) (.const (.int .u64 3)) 228, (some 72)⟩,
 ⟨none, .binOp .xor 272 (.tmp 70) (.tmp 72) 272, (some 73)⟩,
 asO 73 8]
def sc232r8 : List SOp := [mvO 7 74,
 ⟨none, .call { callee := .value (.func 260), args := #[(.tmp 74), (.const (.int .i64 (-17)))], argTypes := #[272, 3] }, (some 75)⟩,
 mvO 7 76,
 ⟨none, .call { callee := .value (.func 260), args := #[(.tmp 76), (.const (.int .i64 (-19)))], argTypes := #[272, 3] }, (some 77)⟩,
 ⟨none, .binOp .xor 272 (.tmp 75) (.tmp 77) 272, (some 78)⟩,
 mvO 7 79,
 ⟨none, .binOp .shr 272 (.tmp 79) (.const (.int .u64 10)) 228, (some 80)⟩,
 ⟨none, .binOp .xor 272 (.tmp 78) (.tmp 80) 272, (some 81)⟩,
 asO 81 9]
def sc232r9 : List (SOp × DK) := [(⟨none, .move (.tmp 5), (some 82)⟩, .L 0 0 []),
 (⟨none, .move (.tmp 5), (some 83)⟩, .L 0 0 []),
 (⟨none, .binOp .sub 3 (.tmp 83) (.const (.int .i64 16)) 3, (some 84)⟩, .L 0 0 []),
 (⟨none, .indexAddr 274 (.tmp 4) (.tmp 84), (some 85)⟩, .L 0 0 []),
 (⟨none, .load 272 (.tmp 85), (some 86)⟩, .L 0 0 []),
 (⟨none, .move (.tmp 8), (some 87)⟩, .L 0 0 []),
 (⟨none, .binOp .add 272 (.tmp 86) (.tmp 87) 272, (some 88)⟩, .L 0 0 []),
 (⟨none, .move (.tmp 5), (some 89)⟩, .L 0 0 []),
 (⟨none, .binOp .sub 3 (.tmp 89) (.const (.int .i64 7)) 3, (some 90)⟩, .L 0 0 []),
 (⟨none, .indexAddr 274 (.tmp 4) (.tmp 90), (some 91)⟩, .L 0 0 []),
 (⟨none, .load 272 (.tmp 91), (some 92)⟩, .L 0 0 []),
 (⟨none, .binOp .add 272 (.tmp 88) (.tmp 92) 272, (some 93)⟩, .L 0 0 []),
 (⟨none, .move (.tmp 9), (some 94)⟩, .L 0 0 []),
 (⟨none, .binOp .add 272 (.tmp 93) (.tmp 94) 272, (some 95)⟩, .L 0 0 []),
 (⟨none, .indexAddr 274 (.tmp 4) (.tmp 82), (some 96)⟩, .L 0 0 []),
 (⟨none, .store 272 (.tmp 96) (.tmp 95), none⟩, .A [82, 83, 84, 85, 86, 87, 88, 89, 90, 91, 92, 93, 94, 95, 96] [])]
def sc232d9 : SC := .draw sc232r9
theorem sc232d9_x {o rd Q t h d r} : xC cx o rd sc232d9 Q t h d r = xDraw cx o rd Q sc232r9 0 [h] [] [] t h d r := xC_draw (by kernel_rfl)
def sc232r10 : List SOp := [⟨none, .binOp .add 3 (.tmp 22) (.const (.int .i64 1)) 3, (some 97)⟩,
 mvO 97 22]
def sc232l11 : SC := (.seq (.reg sc232r2) (.seq (.cond (.tmp 23) .skip (.exit 0)) (.seq (.block 1 (.seq (.reg sc232r3) (.seq (.seq (.reg sc232r4) (.cond (.tmp 26) (.seq sc232d5 (.exit 1)) .skip)) (.seq sc232d6 (.seq (.reg sc232r7) (.seq (.reg sc232r8) sc232d9)))))) (.reg sc232r10))))
def sc232r12 : List SOp := [mvO 0 98,
 ncO 98 99,
 faO 281 99 0 100,
 faO 279 100 0 101,
 ldO 273 101 102,
 ⟨none, .alloc 273, (some 10)⟩,
 ⟨none, .store 273 (.tmp 10) (.tmp 102), none⟩]
def sc232r13 : List SOp := [⟨none, .move (.const (.int .i64 0)), (some 103)⟩]
def sc232r14 : List SOp := [⟨none, .binOp .lss 3 (.tmp 103) (.const (.int .i64 64)) 3, (some 104)⟩]
def sc232r15 : List SOp := [mvO 103 105,
 asO 105 11]
def sc232r16 : List (SOp × DK) := [(⟨none, .indexAddr 273 (.tmp 10) (.const (.int .i64 0)), (some 106)⟩, .L 0 0 []),
 (⟨none, .load 272 (.tmp 106), (some 107)⟩, .L 0 0 []),
 (⟨none, .indexAddr 273 (.tmp 10) (.const (.int .i64 1)), (some 108)⟩, .L 0 0 []),
 (⟨none, .load 272 (.tmp 108), (some 109)⟩, .L 0 0 []),
 (⟨none, .indexAddr 273 (.tmp 10) (.const (.int .i64 2)), (some 110)⟩, .L 0 0 []),
 (⟨none, .load 272 (.tmp 110), (some 111)⟩, .L 0 0 []),
 (⟨none, .assign (.tmp 107), (some 12)⟩, .L 0 0 []),
 (⟨none, .assign (.tmp 109), (some 13)⟩, .L 0 0 []),
 (⟨none, .assign (.tmp 111), (some 14)⟩, .L 0 0 [])]
def sc232d16 : SC := .draw sc232r16
theorem sc232d16_x {o rd Q t h d r} : xC cx o rd sc232d16 Q t h d r = xDraw cx o rd Q sc232r16 0 [h] [] [] t h d r := xC_draw (by kernel_rfl)
def sc232r17 : List (SOp × DK) := [(⟨none, .indexAddr 273 (.tmp 10) (.const (.int .i64 4)), (some 112)⟩, .L 0 0 []),
 (⟨none, .load 272 (.tmp 112), (some 113)⟩, .L 0 0 []),
 (⟨none, .indexAddr 273 (.tmp 10) (.const (.int .i64 5)), (some 114)⟩, .L 0 0 []),
 (⟨none, .load 272 (.tmp 114), (some 115)⟩, .L 0 0 []),
 (⟨none, .indexAddr 273 (.tmp 10) (.const (.int .i64 6)), (some 116)⟩, .L 0 0 []),
 (⟨none, .load 272 (.tmp 116), (some 117)⟩, .L 0 0 []),
 (⟨none, .assign (.tmp 113), (some 15)⟩, .L 0 0 []),
 (⟨none, .assign (.tmp 115), (some 16)⟩, .L 0 0 []),
 (⟨none, .assign (.tmp 117), (some 17)⟩, .L 0 0 [])]
def sc232d17 : SC := .draw sc232r17
theorem sc232d17_x {o rd Q t h d r} : xC cx o rd sc232d17 Q t h d r = xDraw cx o rd Q sc232r17 0 [h] [] [] t h d r := xC_draw (by kernel_rfl)
def sc232r18 : List (SOp × DK) := [(⟨none, .indexAddr 273 (.tmp 10) (.const (.int .i64 7)), (some 118)⟩, .L 0 3 []),
 (⟨none, .load 272 (.tmp 118), (some 119)⟩, .L 0 3 []),
 (⟨none, .move (.tmp 15), (some 120)⟩, .L 0 0 []),
 (⟨none, .call { callee := .value (.func 260), args := #[(.tmp 120), (.const (.int .i64 (-6)))], argTypes := #[272, 3] }, (some 121)⟩, .A [118, 119, 120, 121, 122, 125, 129, 130, 131, 132, 133, 134, 135, 136, 138, 139, 140, 141, 142, 143, 145, 146, 147] [118, 119, 122, 125, 129, 130, 131, 132, 133, 134, 135, 136, 138, 139, 140, 141, 142, 143, 145, 146, 147]),
 (⟨none, .move (.tmp 15), (some 122)⟩, .L 0 1 []),
 (⟨none, .call { callee := .value (.func 260), args := #[(.tmp 122), (.const (.int .i64 (-11)))], argTypes := #[272, 3] }, (some 123)⟩, .A [118, 119, 120, 121, 122, 123, 125, 129, 130, 131, 132, 133, 134, 135, 136, 138, 139, 140, 141, 142, 143, 145, 146, 147] [118, 119, 125, 129, 130, 131, 132, 133, 134, 135, 136, 138, 139, 140, 141, 142, 143, 145, 146, 147]),
 (⟨none, .binOp .xor 272 (.tmp 121) (.tmp 123) 272, (some 124)⟩, .L 2 3 []),
 (⟨none, .move (.tmp 15), (some 125)⟩, .L 0 2 []),
 (⟨none, .call { callee := .value (.func 260), args := #[(.tmp 125), (.const (.int .i64 (-25)))], argTypes := #[272, 3] }, (some 126)⟩, .A [118, 119, 120, 121, 122, 123, 124, 125, 126, 129, 130, 131, 132, 133, 134, 135, 136, 138, 139, 140, 141, 142, 143, 145, 146, 147] [118, 119, 124, 129, 130, 131, 132, 133, 134, 135, 136, 138, 139, 140, 141, 142, 143, 145, 146, 147]),
 (⟨none, .binOp .xor 272 (.tmp 124) (.tmp 126) 272, (some 127)⟩, .L 3 3 []),
 (⟨none, .binOp .add 272 (.tmp 119) (.tmp 127) 272, (some 128)⟩, .L 3 3 []),
 (⟨none, .move (.tmp 15), (some 129)⟩, .L 0 3 []),
 (⟨none, .move (.tmp 16), (some 130)⟩, .L 0 3 []),
 (⟨none, .binOp .and 272 (.tmp 129) (.tmp 130) 272, (some 131)⟩, .L 0 3 []),
 (⟨none, .move (.tmp 15), (some 132)⟩, .L 0 3 []),
 (⟨none, .unOp .xor 272 (.tmp 132), (some 133)⟩, .L 0 3 []),
 (⟨none, .move (.tmp 17), (some 134)⟩, .L 0 3 []),
 (⟨none, .binOp .and 272 (.tmp 133) (.tmp 134) 272, (some 135)⟩, .L 0 3 []),
 (⟨none, .binOp .xor 272 (.tmp 131) (.tmp 135) 272, (some 136)⟩, .L 0 3 []),
 (⟨none, .binOp .add 272 (.tmp 128) (.tmp 136) 272, (some 137)⟩, .L 3 3 []),
 (⟨none, .move (.tmp 0), (some 138)⟩, .L 0 3 []),
 (⟨none, .move (.tmp 11), (some 139)⟩, .L 0 3 []),
 (⟨none, .nilCheck (.tmp 138), (some 140)⟩, .L 0 3 []),
 (⟨none, .fieldAddr 281 (.tmp 140) 1, (some 141)⟩, .L 0 3 []),
 (⟨none, .indexAddr 274 (.tmp 141) (.tmp 139), (some 142)⟩, .L 0 3 []),
 (⟨none, .load 272 (.tmp 142), (some 143)⟩, .L 0 3 []),
 (⟨none, .binOp .add 272 (.tmp 137) (.tmp 143) 272, (some 144)⟩, .L 3 3 []),
 (⟨none, .move (.tmp 11), (some 145)⟩, .L 0 3 []),
 (⟨none, .indexAddr 274 (.tmp 4) (.tmp 145), (some 146)⟩, .L 0 3 []),
 (⟨none, .load 272 (.tmp 146), (some 147)⟩, .L 0 3 []),
 (⟨none, .binOp .add 272 (.tmp 144) (.tmp 147) 272, (some 148)⟩, .L 3 3 []),
 (⟨none, .assign (.tmp 148), (some 18)⟩, .L 3 3 [])]
def sc232d18 : SC := .draw sc232r18
theorem sc232d18_x {o rd Q t h d r} : xC cx o rd sc232d18 Q t h d r = xDraw cx o rd Q sc232r18 0 [h] [] [] t h d r := xC_draw (by kernel_rfl)
def sc232r19 : List SOp := [mvO 12 149,
 ⟨none, .call { callee := .value (.func 260), args := #[(.tmp 149), (.const (.int .i64 (-2)))], argTypes := #[272, 3] }, (some 150)⟩,
 mvO 12 151,
 ⟨none, .call { callee := .value (.func 260), args := #[(.tmp 151), (.const (.int .i64 (-13)))], argTypes := #[272, 3] }, (some 152)⟩,
 ⟨none, .binOp .xor 272 (.tmp 150) (.tmp 152) 272, (some 153)⟩,
 mvO 12 154,
 ⟨none, .call { callee := .value (.func 260), args := #[(.tmp 154), (.const (.int .i64 (-22)))], argTypes := #[272, 3] }, (some 155)⟩,
 ⟨none, .binOp .xor 272 (.tmp 153) (.tmp 155) 272, (some 156)⟩,
 mvO 12 157,
 mvO 13 158,
 ⟨none, .binOp .and 272 (.tmp 157) (.tmp 158) 272, (some 159)⟩,
 mvO 12 160,
 mvO 14 161,
 ⟨none, .binOp .and 272 (.tmp 160) (.tmp 161) 272, (some 162)⟩,
 ⟨none, .binOp .xor 272 (.tmp 159) (.tmp 162) 272, (some 163)⟩,
 mvO 13 164,
 mvO 14 165,
 ⟨none, .binOp .and 272 (.tmp 164) (.tmp 165) 272, (some 166)⟩,
 ⟨none, .binOp .xor 272 (.tmp 163) (.tmp 166) 272, (some 167)⟩,
 ⟨none, .binOp .add 272 (.tmp 156) (.tmp 167) 272, (some 168)⟩,
 asO 168 19]
def sc232r20 : List SOp := [mvO 18 169,
 mvO 19 170,
 ⟨none, .binOp .add 272 (.tmp 169) (.tmp 170) 272, (some 171)⟩,
 mvO 12 172,
 mvO 13 173,
 mvO 14 174,
 ⟨none, .indexAddr 273 (.tmp 10) (.const (.int .i64 3)), (some 175)⟩,
 ldO 272 175 176,
 mvO 18 177,
 ⟨none, .binOp .add 272 (.tmp 176) (.tmp 177) 272, (some 178)⟩,
 mvO 15 179,
 mvO 16 180,
 mvO 17 181,
 ⟨none, .build 273 #[(0, (.tmp 171)), (1, (.tmp 172)), (2, (.tmp 173)), (3, (.tmp 174)), (4, (.tmp 178)), (5, (.tmp 179)), (6, (.tmp 180)), (7, (.tmp 181))], (some 182)⟩,
 ⟨none, .store 273 (.tmp 10) (.tmp 182), none⟩]
def sc232r21 : List SOp := [⟨none, .binOp .add 3 (.tmp 103) (.const (.int .i64 1)) 3, (some 183)⟩,
 mvO 183 103]
def sc232l22 : SC := (.seq (.reg sc232r14) (.seq (.cond (.tmp 104) .skip (.exit 2)) (.seq (.block 3 (.seq (.reg sc232r15) (.seq sc232d16 (.seq sc232d17 (.seq sc232d18 (.seq (.reg sc232r19) (.reg sc232r20))))))) (.reg sc232r21))))
def sc232r23 : List SOp := [ldO 273 10 184,
 ⟨none, .move (.const (.int .i64 0)), (some 185)⟩]
def sc232r24 : List SOp := [⟨none, .binOp .lss 3 (.tmp 185) (.const (.int .i64 8)) 3, (some 186)⟩]
def sc232r25 : List SOp := [mvO 185 187,
 ⟨none, .index 273 (.tmp 184) (.tmp 185), (some 188)⟩,
 asO 187 20,
 asO 188 21]
def sc232r26 : List (SOp × DK) := [(⟨none, .move (.tmp 0), (some 189)⟩, .L 0 0 []),
 (⟨none, .move (.tmp 20), (some 190)⟩, .L 0 0 []),
 (⟨none, .nilCheck (.tmp 189), (some 191)⟩, .L 0 0 []),
 (⟨none, .fieldAddr 281 (.tmp 191) 0, (some 192)⟩, .L 0 0 []),
 (⟨none, .fieldAddr 279 (.tmp 192) 0, (some 193)⟩, .L 0 0 []),
 (⟨none, .indexAddr 273 (.tmp 193) (.tmp 190), (some 194)⟩, .L 0 0 []),
 (⟨none, .load 272 (.tmp 194), (some 195)⟩, .L 0 0 []),
 (⟨none, .move (.tmp 21), (some 196)⟩, .L 0 0 []),
 (⟨none, .binOp .add 272 (.tmp 195) (.tmp 196) 272, (some 197)⟩, .L 0 0 []),
 (⟨none, .nilCheck (.tmp 189), (some 198)⟩, .L 0 0 []),
 (⟨none, .fieldAddr 281 (.tmp 198) 0, (some 199)⟩, .L 0 0 []),
 (⟨none, .fieldAddr 279 (.tmp 199) 0, (some 200)⟩, .L 0 0 []),
 (⟨none, .indexAddr 273 (.tmp 200) (.tmp 190), (some 201)⟩, .L 0 0 []),
 (⟨none, .store 272 (.tmp 201) (.tmp 197), none⟩, .A [189, 190, 191, 192, 193, 194, 195, 196, 197, 198, 199, 200, 201] [])]
def sc232d26 : SC := .draw sc232r26
theorem sc232d26_x {o rd Q t h d r} : xC cx o rd sc232d26 Q t h d r = xDraw cx o rd Q sc232r26 0 [h] [] [] t h d r := xC_draw (by kernel_rfl)
def sc232r27 : List SOp := [⟨none, .binOp .add 3 (.tmp 185) (.const (.int .i64 1)) 3, (some 202)⟩,
 mvO 202 185]
def sc232l28 : SC := (.seq (.reg sc232r24) (.seq (.cond (.tmp 186) .skip (.exit 4)) (.seq (.block 5 (.seq (.reg sc232r25) sc232d26)) (.reg sc232r27))))
def sc232 : SC := (.seq (.reg sc232r0) (.seq (.seq (.reg sc232r1) (.block 0 (.loop sc232l11))) (.seq (.reg sc232r12) (.seq (.seq (.reg sc232r13) (.block 2 (.loop sc232l22))) (.seq (.reg sc232r23) (.block 4 (.loop sc232l28)))))))
theorem ct232 : CT 232 203 sc232 [] := mkCT (fn := Tryz.f232) (by kernel_rfl) (by kernel_rfl) rfl rfl (by kernel_rfl)
-- math/bits.RotateLeft32
def sc260r0 : List SOp := [⟨none, .assign (.const (.int .u32 0)), (some 4)⟩]
def sc260r1 : List SOp := [mvO 1 6,
 ⟨none, .convert 3 228 (.tmp 6), (some 7)⟩,
 ⟨none, .binOp .and 228 (.tmp 7) (.const (.int .u64 31)) 228, (some 8)⟩,
 asO 8 5]
def sc260r2 : List SOp := [mvO 0 9,
 mvO 5 10,
 ⟨none, .binOp .shl 272 (.tmp 9) (.tmp 10) 228, (some 11)⟩,
 mvO 0 12,
 mvO 5 13,
 ⟨none, .binOp .sub 228 (.const (.int .u64 32)) (.tmp 13) 228, (some 14)⟩,
 ⟨none, .binOp .shr 272 (.tmp 12) (.tmp 14) 228, (some 15)⟩,
 ⟨none, .binOp .or 272 (.tmp 11) (.tmp 15) 272, (some 16)⟩,
 asO 16 4]
def sc260 : SC := (.seq (.reg sc260r0) (.seq (.reg sc260r1) (.seq (.reg sc260r2) .ret)))
theorem ext260 : cx.ext 260 = none := by kernel_rfl
theorem ct260 : CT 260 17 sc260 [.tmp 4] := mkCT (fn := Tryz.f260) (by kernel_rfl) (by kernel_rfl) rfl rfl (by kernel_rfl)
-- understory/understorylaw07.TreeSpaces
def sc4r0 : List SOp := [⟨none, .box 41 (.tmp 0), (some 3)⟩,
 ⟨none, .assign (.const (.bool false)), (some 6)⟩]
def sc4r1 : List SOp := [ldO 41 3 14,
 ⟨none, .call { callee := .value (.func 12), args := #[(.tmp 14)], argTypes := #[41] }, (some 15)⟩,
 ⟨none, .unOp .not 4 (.tmp 15), (some 16)⟩]
def sc4r2 : List SOp := [⟨none, .call { callee := .value (.func 13), args := #[], argTypes := #[] }, (some 17)⟩,
 asO 17 6]
def sc4r3 : List SOp := [ldO 41 3 19,
 ⟨none, .call { callee := .value (.func 14), args := #[(.tmp 19)], argTypes := #[41] }, (some 20)⟩,
 mvO 20 18,
 ⟨none, .extract (.tmp 18) 0, (some 21)⟩,
 ⟨none, .extract (.tmp 18) 1, (some 22)⟩,
 ⟨none, .extract (.tmp 18) 2, (some 23)⟩,
 ⟨none, .alloc 41, (some 7)⟩,
 ⟨none, .store 41 (.tmp 7) (.tmp 21), none⟩,
 asO 22 8,
 asO 23 9]
def sc4r4 : List SOp := [ldO 41 3 24,
 ⟨none, .call { callee := .value (.func 15), args := #[(.tmp 24)], argTypes := #[41] }, (some 25)⟩,
 ⟨none, .alloc 52, (some 10)⟩,
 ⟨none, .store 52 (.tmp 10) (.tmp 25), none⟩]
def sc4r5 : List SOp := [ldO 41 3 27,
 mvO 1 28,
 ⟨none, .call { callee := .value (.func 16), args := #[(.tmp 27), (.tmp 28)], argTypes := #[41, 3] }, (some 29)⟩,
 mvO 29 26,
 ⟨none, .extract (.tmp 26) 0, (some 30)⟩,
 ⟨none, .extract (.tmp 26) 1, (some 31)⟩,
 ⟨none, .alloc 41, (some 11)⟩,
 ⟨none, .store 41 (.tmp 11) (.tmp 30), none⟩,
 asO 31 12]
def sc4r6 : List SOp := [ldO 41 3 32,
 mvO 1 33,
 ⟨none, .call { callee := .value (.func 17), args := #[(.tmp 32), (.tmp 33)], argTypes := #[41, 3] }, (some 34)⟩,
 ⟨none, .alloc 52, (some 13)⟩,
 ⟨none, .store 52 (.tmp 13) (.tmp 34), none⟩]
def sc4r7 : List (SOp × DK) := [(⟨none, .call { callee := .value (.func 13), args := #[], argTypes := #[] }, (some 35)⟩, .A [35] []),
 (⟨none, .move (.tmp 35), (some 36)⟩, .L 1 1 []),
 (⟨(some (some 36, true)), .load 41 (.tmp 3), (some 37)⟩, .L 1 1 []),
 (⟨(some (some 36, true)), .call { callee := .value (.func 18), args := #[(.tmp 37)], argTypes := #[41] }, (some 38)⟩, .A [35, 36, 37, 38, 39] [39]),
 (⟨(some (some 36, true)), .load 41 (.tmp 3), (some 39)⟩, .L 1 2 []),
 (⟨(some (some 36, true)), .call { callee := .value (.func 19), args := #[(.tmp 39)], argTypes := #[41] }, (some 40)⟩, .A [35, 36, 37, 38, 39, 40] []),
 (⟨(some (some 36, true)), .binOp .eql 25 (.tmp 38) (.tmp 40) 25, (some 41)⟩, .L 3 3 []),
 (⟨none, .pick (.tmp 36) (.tmp 41) (.const (.bool false)), (some 42)⟩, .L 3 3 []),
 (⟨none, .move (.tmp 42), (some 43)⟩, .L 3 3 []),
 (⟨(some (some 43, true)), .move (.tmp 2), (some 44)⟩, .L 3 3 []),
 (⟨(some (some 43, true)), .call { callee := .value (.func 21), args := #[(.tmp 44)], argTypes := #[3] }, (some 45)⟩, .A [35, 36, 37, 38, 39, 40, 41, 42, 43, 44, 45, 46] [46]),
 (⟨(some (some 43, true)), .move (.tmp 2), (some 46)⟩, .L 3 4 []),
 (⟨(some (some 43, true)), .call { callee := .value (.func 22), args := #[(.tmp 46)], argTypes := #[3] }, (some 47)⟩, .A [35, 36, 37, 38, 39, 40, 41, 42, 43, 44, 45, 46, 47] []),
 (⟨(some (some 43, true)), .call { callee := .value (.func 20), args := #[(.tmp 45), (.tmp 47)], argTypes := #[41, 41] }, (some 48)⟩, .A [35, 36, 37, 38, 39, 40, 41, 42, 43, 44, 45, 46, 47, 48] []),
 (⟨none, .pick (.tmp 43) (.tmp 48) (.const (.bool false)), (some 49)⟩, .L 6 6 []),
 (⟨none, .move (.tmp 49), (some 50)⟩, .L 6 6 []),
 (⟨(some (some 50, true)), .load 41 (.tmp 7), (some 51)⟩, .L 6 6 []),
 (⟨(some (some 50, true)), .build 48 #[], (some 52)⟩, .L 6 6 []),
 (⟨(some (some 50, true)), .move (.tmp 9), (some 53)⟩, .L 6 6 []),
 (⟨(some (some 50, true)), .load 52 (.tmp 10), (some 54)⟩, .L 6 6 []),
 (⟨(some (some 50, true)), .call { callee := .value (.func 23), args := #[(.tmp 51), (.tmp 52), (.tmp 53), (.tmp 54)], argTypes := #[41, 48, 25, 52] }, (some 55)⟩, .A [35, 36, 37, 38, 39, 40, 41, 42, 43, 44, 45, 46, 47, 48, 49, 50, 51, 52, 53, 54, 55] []),
 (⟨none, .pick (.tmp 50) (.tmp 55) (.const (.bool false)), (some 56)⟩, .L 7 7 []),
 (⟨none, .move (.tmp 56), (some 57)⟩, .L 7 7 []),
 (⟨(some (some 57, true)), .move (.tmp 8), (some 58)⟩, .L 7 7 []),
 (⟨(some (some 57, true)), .fieldAddr 52 (.tmp 10) 3, (some 59)⟩, .L 7 7 []),
 (⟨(some (some 57, true)), .load 3 (.tmp 59), (some 60)⟩, .L 7 7 []),
 (⟨(some (some 57, true)), .binOp .eql 3 (.tmp 58) (.tmp 60) 3, (some 61)⟩, .L 7 7 []),
 (⟨none, .pick (.tmp 57) (.tmp 61) (.const (.bool false)), (some 62)⟩, .L 7 7 []),
 (⟨none, .move (.tmp 62), (some 63)⟩, .L 7 7 []),
 (⟨(some (some 63, true)), .load 41 (.tmp 11), (some 64)⟩, .L 7 7 []),
 (⟨(some (some 63, true)), .build 48 #[], (some 65)⟩, .L 7 7 []),
 (⟨(some (some 63, true)), .move (.tmp 12), (some 66)⟩, .L 7 7 []),
 (⟨(some (some 63, true)), .load 52 (.tmp 13), (some 67)⟩, .L 7 7 []),
 (⟨(some (some 63, true)), .call { callee := .value (.func 23), args := #[(.tmp 64), (.tmp 65), (.tmp 66), (.tmp 67)], argTypes := #[41, 48, 25, 52] }, (some 68)⟩, .A [35, 36, 37, 38, 39, 40, 41, 42, 43, 44, 45, 46, 47, 48, 49, 50, 51, 52, 53, 54, 55, 56, 57, 58, 59, 60, 61, 62, 63, 64, 65, 66, 67, 68] []),
 (⟨none, .pick (.tmp 63) (.tmp 68) (.const (.bool false)), (some 69)⟩, .L 8 8 []),
 (⟨none, .assign (.tmp 69), (some 6)⟩, .L 8 8 [])]
def sc4d7 : SC := .draw sc4r7
theorem sc4d7_x {o rd Q t h d r} : xC cx o rd sc4d7 Q t h d r = xDraw cx o rd Q sc4r7 0 [h] [] [] t h d r := xC_draw (by kernel_rfl)
def sc4 : SC := (.seq (.reg sc4r0) (.seq (.seq (.reg sc4r1) (.cond (.tmp 16) (.seq (.reg sc4r2) .ret) .skip)) (.seq (.reg sc4r3) (.seq (.reg sc4r4) (.seq (.reg sc4r5) (.seq (.reg sc4r6) (.seq sc4d7 .ret)))))))
theorem ext4 : cx.ext 4 = none := by kernel_rfl
theorem ct4 : CT 4 70 sc4 [.tmp 6] := mkCT (fn := Tryz.f4) (by kernel_rfl) (by kernel_rfl) rfl rfl (by kernel_rfl)
-- understory/understorylaw07.small
def sc12r0 : List SOp := [⟨none, .box 41 (.tmp 0), (some 1)⟩,
 ⟨none, .assign (.const (.bool false)), (some 2)⟩]
def sc12r1 : List SOp := [faO 41 1 0 5,
 ldO 38 5 6,
 ⟨none, .call { callee := .builtin .len, args := #[(.tmp 6)], argTypes := #[38] }, (some 7)⟩,
 ⟨none, .binOp .gtr 3 (.tmp 7) (.const (.int .i64 60)) 3, (some 8)⟩,
 mvO 8 9,
 ⟨(some (some 9, false)), .fieldAddr 41 (.tmp 1) 1, (some 10)⟩,
 ⟨(some (some 9, false)), .load 39 (.tmp 10), (some 11)⟩,
 ⟨(some (some 9, false)), .call { callee := .builtin .len, args := #[(.tmp 11)], argTypes := #[39] }, (some 12)⟩,
 ⟨(some (some 9, false)), .binOp .gtr 3 (.tmp 12) (.const (.int .i64 60)) 3, (some 13)⟩,
 ⟨none, .pick (.tmp 9) (.const (.bool true)) (.tmp 13), (some 14)⟩,
 mvO 14 15,
 ⟨(some (some 15, false)), .fieldAddr 41 (.tmp 1) 2, (some 16)⟩,
 ⟨(some (some 15, false)), .load 39 (.tmp 16), (some 17)⟩,
 ⟨(some (some 15, false)), .call { callee := .builtin .len, args := #[(.tmp 17)], argTypes := #[39] }, (some 18)⟩,
 ⟨(some (some 15, false)), .binOp .gtr 3 (.tmp 18) (.const (.int .i64 60)) 3, (some 19)⟩,
 ⟨none, .pick (.tmp 15) (.const (.bool true)) (.tmp 19), (some 20)⟩,
 mvO 20 21,
 ⟨(some (some 21, false)), .fieldAddr 41 (.tmp 1) 3, (some 22)⟩,
 ⟨(some (some 21, false)), .load 39 (.tmp 22), (some 23)⟩,
 ⟨(some (some 21, false)), .call { callee := .builtin .len, args := #[(.tmp 23)], argTypes := #[39] }, (some 24)⟩,
 ⟨(some (some 21, false)), .binOp .gtr 3 (.tmp 24) (.const (.int .i64 60)) 3, (some 25)⟩,
 ⟨none, .pick (.tmp 21) (.const (.bool true)) (.tmp 25), (some 26)⟩]
def sc12r2 : List SOp := [⟨none, .assign (.const (.bool false)), (some 2)⟩]
def sc12r3 : List SOp := [⟨none, .assign (.const (.int .i64 0)), (some 3)⟩]
def sc12r4 : List SOp := [⟨none, .assign (.const (.int .i64 0)), (some 4)⟩]
def sc12r5 : List SOp := [mvO 4 27,
 faO 41 1 0 28,
 ldO 38 28 29,
 ⟨none, .call { callee := .builtin .len, args := #[(.tmp 29)], argTypes := #[38] }, (some 30)⟩,
 ⟨none, .binOp .lss 3 (.tmp 27) (.tmp 30) 3, (some 31)⟩]
def sc12r6 : List SOp := [mvO 3 34,
 faO 41 1 0 35,
 ldO 38 35 36,
 mvO 4 37,
 ⟨none, .indexAddr 38 (.tmp 36) (.tmp 37), (some 38)⟩,
 ldO 79 38 39,
 ⟨none, .call { callee := .value (.func 36), args := #[(.tmp 39)], argTypes := #[79] }, (some 40)⟩,
 ⟨none, .binOp .add 3 (.tmp 34) (.tmp 40) 3, (some 41)⟩,
 asO 41 3]
def sc12r7 : List SOp := [mvO 4 32,
 ⟨none, .binOp .add 3 (.tmp 32) (.const (.int .i64 1)) 3, (some 33)⟩,
 asO 33 4]
def sc12l8 : SC := (.seq (.seq (.reg sc12r5) (.cond (.tmp 31) .skip (.exit 0))) (.seq (.block 1 (.reg sc12r6)) (.reg sc12r7)))
def sc12r9 : List SOp := [mvO 3 42,
 ⟨none, .binOp .leq 3 (.tmp 42) (.const (.int .i64 30000)) 3, (some 43)⟩,
 asO 43 2]
def sc12 : SC := (.seq (.reg sc12r0) (.seq (.seq (.reg sc12r1) (.cond (.tmp 26) (.seq (.reg sc12r2) .ret) .skip)) (.seq (.reg sc12r3) (.seq (.seq (.reg sc12r4) (.block 0 (.loop sc12l8))) (.seq (.reg sc12r9) .ret)))))
theorem ext12 : cx.ext 12 = none := by kernel_rfl
theorem ct12 : CT 12 44 sc12 [.tmp 2] := mkCT (fn := Tryz.f12) (by kernel_rfl) (by kernel_rfl) rfl rfl (by kernel_rfl)
-- understory/understorylaw07.weight
def sc36r0 : List SOp := [⟨none, .box 79 (.tmp 0), (some 1)⟩,
 ⟨none, .assign (.const (.int .i64 0)), (some 2)⟩]
def sc36r1 : List SOp := [faO 79 1 8 6,
 ldO 9 6 7,
 ⟨none, .call { callee := .builtin .len, args := #[(.tmp 7)], argTypes := #[9] }, (some 8)⟩,
 ⟨none, .binOp .add 3 (.const (.int .i64 20)) (.tmp 8) 3, (some 9)⟩,
 asO 9 3]
def sc36r2 : List SOp := [⟨none, .assign (.const (.int .i64 0)), (some 4)⟩]
def sc36r3 : List SOp := [mvO 4 10,
 faO 79 1 6 11,
 ldO 76 11 12,
 ⟨none, .call { callee := .builtin .len, args := #[(.tmp 12)], argTypes := #[76] }, (some 13)⟩,
 ⟨none, .binOp .lss 3 (.tmp 10) (.tmp 13) 3, (some 14)⟩]
def sc36r4 : List (SOp × DK) := [(⟨none, .move (.tmp 3), (some 17)⟩, .L 0 0 []),
 (⟨none, .binOp .add 3 (.tmp 17) (.const (.int .i64 20)) 3, (some 18)⟩, .L 0 0 []),
 (⟨none, .fieldAddr 79 (.tmp 1) 6, (some 19)⟩, .L 0 0 []),
 (⟨none, .load 76 (.tmp 19), (some 20)⟩, .L 0 0 []),
 (⟨none, .move (.tmp 4), (some 21)⟩, .L 0 0 []),
 (⟨none, .indexAddr 76 (.tmp 20) (.tmp 21), (some 22)⟩, .L 0 0 []),
 (⟨none, .fieldAddr 50 (.tmp 22) 0, (some 23)⟩, .L 0 0 []),
 (⟨none, .load 9 (.tmp 23), (some 24)⟩, .L 0 0 []),
 (⟨none, .call { callee := .builtin .len, args := #[(.tmp 24)], argTypes := #[9] }, (some 25)⟩, .L 0 0 []),
 (⟨none, .binOp .add 3 (.tmp 18) (.tmp 25) 3, (some 26)⟩, .L 0 0 []),
 (⟨none, .fieldAddr 79 (.tmp 1) 6, (some 27)⟩, .L 0 0 []),
 (⟨none, .load 76 (.tmp 27), (some 28)⟩, .L 0 0 []),
 (⟨none, .move (.tmp 4), (some 29)⟩, .L 0 0 []),
 (⟨none, .indexAddr 76 (.tmp 28) (.tmp 29), (some 30)⟩, .L 0 0 []),
 (⟨none, .fieldAddr 50 (.tmp 30) 1, (some 31)⟩, .L 0 0 []),
 (⟨none, .load 9 (.tmp 31), (some 32)⟩, .L 0 0 []),
 (⟨none, .call { callee := .builtin .len, args := #[(.tmp 32)], argTypes := #[9] }, (some 33)⟩, .L 0 0 []),
 (⟨none, .binOp .add 3 (.tmp 26) (.tmp 33) 3, (some 34)⟩, .L 0 0 []),
 (⟨none, .assign (.tmp 34), (some 3)⟩, .L 0 0 [])]
def sc36d4 : SC := .draw sc36r4
theorem sc36d4_x {o rd Q t h d r} : xC cx o rd sc36d4 Q t h d r = xDraw cx o rd Q sc36r4 0 [h] [] [] t h d r := xC_draw (by kernel_rfl)
def sc36r5 : List SOp := [mvO 4 15,
 ⟨none, .binOp .add 3 (.tmp 15) (.const (.int .i64 1)) 3, (some 16)⟩,
 asO 16 4]
def sc36l6 : SC := (.seq (.seq (.reg sc36r3) (.cond (.tmp 14) .skip (.exit 0))) (.seq (.block 1 sc36d4) (.reg sc36r5)))
def sc36r7 : List SOp := [⟨none, .assign (.const (.int .i64 0)), (some 5)⟩]
def sc36r8 : List SOp := [mvO 5 35,
 faO 79 1 9 36,
 ldO 77 36 37,
 ⟨none, .call { callee := .builtin .len, args := #[(.tmp 37)], argTypes := #[77] }, (some 38)⟩,
 ⟨none, .binOp .lss 3 (.tmp 35) (.tmp 38) 3, (some 39)⟩]
def sc36r9 : List SOp := [mvO 3 42,
 ⟨none, .binOp .add 3 (.tmp 42) (.const (.int .i64 8)) 3, (some 43)⟩,
 faO 79 1 9 44,
 ldO 77 44 45,
 mvO 5 46,
 ⟨none, .indexAddr 77 (.tmp 45) (.tmp 46), (some 47)⟩,
 faO 154 47 1 48,
 ldO 39 48 49,
 ⟨none, .call { callee := .builtin .len, args := #[(.tmp 49)], argTypes := #[39] }, (some 50)⟩,
 ⟨none, .binOp .add 3 (.tmp 43) (.tmp 50) 3, (some 51)⟩,
 asO 51 3]
def sc36r10 : List SOp := [mvO 5 40,
 ⟨none, .binOp .add 3 (.tmp 40) (.const (.int .i64 1)) 3, (some 41)⟩,
 asO 41 5]
def sc36l11 : SC := (.seq (.seq (.reg sc36r8) (.cond (.tmp 39) .skip (.exit 2))) (.seq (.block 3 (.reg sc36r9)) (.reg sc36r10)))
def sc36r12 : List SOp := [mvO 3 52,
 asO 52 2]
def sc36 : SC := (.seq (.reg sc36r0) (.seq (.reg sc36r1) (.seq (.seq (.reg sc36r2) (.block 0 (.loop sc36l6))) (.seq (.seq (.reg sc36r7) (.block 2 (.loop sc36l11))) (.seq (.reg sc36r12) .ret)))))
theorem ext36 : cx.ext 36 = none := by kernel_rfl
theorem ct36 : CT 36 53 sc36 [.tmp 2] := mkCT (fn := Tryz.f36) (by kernel_rfl) (by kernel_rfl) rfl rfl (by kernel_rfl)
-- understory/tree.Alloc
def sc14r0 : List SOp := [⟨none, .box 41 (.tmp 0), (some 1)⟩,
 ⟨none, .alloc 41, (some 2)⟩,
 ⟨none, .assign (.const (.int .i64 0)), (some 3)⟩,
 ⟨none, .alloc 25, (some 4)⟩]
def sc14r1 : List SOp := [⟨none, .defer { callee := .value (.func 47), args := #[(.tmp 4)], argTypes := #[96] }, none⟩]
def sc14r2 : List SOp := [ldO 41 1 6,
 ⟨none, .call { callee := .value (.func 48), args := #[(.tmp 6), (.const (.slice none 0 0))], argTypes := #[41, 171] }, (some 7)⟩,
 asO 7 5]
def sc14r3 : List SOp := [mvO 5 8,
 ⟨none, .call { callee := .value (.func 49), args := #[(.tmp 8)], argTypes := #[97] }, (some 9)⟩,
 asO 9 3]
def sc14r4 : List SOp := [mvO 5 10,
 ncO 10 11,
 faO 101 11 0 12,
 ldO 41 12 13,
 mvO 3 14,
 ⟨none, .store 41 (.tmp 2) (.tmp 13), none⟩,
 asO 14 3,
 ⟨none, .store 25 (.tmp 4) (.const (.int .i64 0)), none⟩]
def sc14 : SC := (.seq (.reg sc14r0) (.seq (.reg sc14r1) (.seq (.reg sc14r2) (.seq (.reg sc14r3) (.seq (.reg sc14r4) .ret)))))
theorem sc14_ok : Tryz.f14.body.map tr = some sc14 := by kernel_rfl
theorem fn14 : cx.fn 14 = some Tryz.f14 := by kernel_rfl
theorem ext14 : cx.ext 14 = none := by kernel_rfl
theorem sc14_dst : okS 15 sc14 = true := by kernel_rfl
def sc47r0 : List SOp := [⟨none, .call { callee := .builtin .recover, args := #[], argTypes := #[] }, (some 5)⟩]
def sc47r1 : List SOp := [⟨none, .binOp .eql 20 (.tmp 5) (.const .nilIface) 20, (some 7)⟩]
def sc47r2 : List SOp := [asO 5 2]
def sc47r3 : List SOp := [⟨none, .typeAssert (.tmp 5) 20 170 true, (some 8)⟩,
 ⟨none, .extract (.tmp 8) 1, (some 9)⟩,
 ⟨none, .extract (.tmp 8) 0, (some 10)⟩]
def sc47r4 : List SOp := [⟨none, .alloc 170, (some 3)⟩,
 ⟨none, .store 170 (.tmp 3) (.tmp 10), none⟩]
def sc47r5 : List SOp := [mvO 0 11,
 faO 170 3 0 12,
 ldO 25 12 13,
 ncO 11 14,
 ⟨none, .store 25 (.tmp 14) (.tmp 13), none⟩]
def sc47r6 : List SOp := [asO 5 4]
def sc47r7 : List SOp := [mvO 4 6,
 ⟨none, .panic (.tmp 6), none⟩]
def sc47 : SC := (.seq (.reg sc47r0) (.block 0 (.seq (.reg sc47r1) (.cond (.tmp 7) (.reg sc47r2) (.seq (.reg sc47r3) (.cond (.tmp 9) (.seq (.reg sc47r4) (.reg sc47r5)) (.seq (.reg sc47r6) (.reg sc47r7))))))))
theorem sc47_ok : Tryz.f47.body.map tr = some sc47 := by kernel_rfl
theorem fn47 : cx.fn 47 = some Tryz.f47 := by kernel_rfl
theorem sc47_dst : okS 15 sc47 = true := by kernel_rfl
def sc48r0 : List SOp := [⟨none, .box 41 (.tmp 0), (some 2)⟩,
 ⟨none, .assign (.const (.pointer none)), (some 4)⟩]
def sc48r1 : List SOp := [ldO 41 2 10,
 ⟨none, .call { callee := .value (.func 18), args := #[(.tmp 10)], argTypes := #[41] }, (some 11)⟩,
 ⟨none, .binOp .eql 25 (.tmp 11) (.const (.int .i64 0)) 25, (some 12)⟩,
 ⟨none, .call { callee := .value (.func 53), args := #[(.tmp 12), (.const (.int .i64 2))], argTypes := #[4, 25] }, (some 13)⟩]
def sc48r2 : List SOp := [ldO 41 2 14,
 ⟨none, .build 101 #[(0, (.tmp 14))], (some 15)⟩,
 ⟨none, .box 101 (.tmp 15), (some 16)⟩,
 asO 16 5]
def sc48r3 : List SOp := [mvO 5 17,
 faO 41 2 0 18,
 ldO 38 18 19,
 ⟨none, .call { callee := .value (.func 102), args := #[(.tmp 19)], argTypes := #[38] }, (some 20)⟩,
 ncO 17 21,
 faO 101 21 0 22,
 faO 41 22 0 23,
 ⟨none, .store 38 (.tmp 23) (.tmp 20), none⟩]
def sc48r4 : List (SOp × DK) := [(⟨none, .move (.tmp 5), (some 24)⟩, .L 0 3 []),
 (⟨none, .move (.tmp 5), (some 25)⟩, .L 0 4 []),
 (⟨none, .move (.tmp 5), (some 26)⟩, .L 0 5 []),
 (⟨none, .fieldAddr 41 (.tmp 2) 1, (some 27)⟩, .L 0 0 []),
 (⟨none, .load 39 (.tmp 27), (some 28)⟩, .L 0 0 []),
 (⟨none, .call { callee := .value (.func 103), args := #[(.tmp 28)], argTypes := #[39] }, (some 29)⟩, .A [24, 25, 26, 27, 28, 29, 30, 31, 33, 34] [24, 25, 26, 30, 31, 33, 34]),
 (⟨none, .fieldAddr 41 (.tmp 2) 2, (some 30)⟩, .L 0 1 []),
 (⟨none, .load 39 (.tmp 30), (some 31)⟩, .L 0 1 []),
 (⟨none, .call { callee := .value (.func 103), args := #[(.tmp 31)], argTypes := #[39] }, (some 32)⟩, .A [24, 25, 26, 27, 28, 29, 30, 31, 32, 33, 34] [24, 25, 26, 33, 34]),
 (⟨none, .fieldAddr 41 (.tmp 2) 3, (some 33)⟩, .L 0 2 []),
 (⟨none, .load 39 (.tmp 33), (some 34)⟩, .L 0 2 []),
 (⟨none, .call { callee := .value (.func 103), args := #[(.tmp 34)], argTypes := #[39] }, (some 35)⟩, .A [24, 25, 26, 27, 28, 29, 30, 31, 32, 33, 34, 35] [24, 25, 26]),
 (⟨none, .nilCheck (.tmp 24), (some 36)⟩, .L 3 3 []),
 (⟨none, .fieldAddr 101 (.tmp 36) 0, (some 37)⟩, .L 3 3 []),
 (⟨none, .fieldAddr 41 (.tmp 37) 1, (some 38)⟩, .L 3 3 []),
 (⟨none, .store 39 (.tmp 38) (.tmp 29), none⟩, .A [24, 25, 26, 27, 28, 29, 30, 31, 32, 33, 34, 35, 36, 37, 38] [25, 26]),
 (⟨none, .nilCheck (.tmp 25), (some 39)⟩, .L 4 4 []),
 (⟨none, .fieldAddr 101 (.tmp 39) 0, (some 40)⟩, .L 4 4 []),
 (⟨none, .fieldAddr 41 (.tmp 40) 2, (some 41)⟩, .L 4 4 []),
 (⟨none, .store 39 (.tmp 41) (.tmp 32), none⟩, .A [24, 25, 26, 27, 28, 29, 30, 31, 32, 33, 34, 35, 36, 37, 38, 39, 40, 41] [26]),
 (⟨none, .nilCheck (.tmp 26), (some 42)⟩, .L 5 5 []),
 (⟨none, .fieldAddr 101 (.tmp 42) 0, (some 43)⟩, .L 5 5 []),
 (⟨none, .fieldAddr 41 (.tmp 43) 3, (some 44)⟩, .L 5 5 []),
 (⟨none, .store 39 (.tmp 44) (.tmp 35), none⟩, .A [24, 25, 26, 27, 28, 29, 30, 31, 32, 33, 34, 35, 36, 37, 38, 39, 40, 41, 42, 43, 44] [])]
def sc48d4 : SC := .draw sc48r4
theorem sc48d4_x {o rd Q t h d r} : xC cx o rd sc48d4 Q t h d r = xDraw cx o rd Q sc48r4 0 [h] [] [] t h d r := xC_draw (by kernel_rfl)
def sc48r5 : List SOp := [mvO 1 45,
 ⟨none, .call { callee := .builtin .len, args := #[(.tmp 45)], argTypes := #[171] }, (some 46)⟩,
 ⟨none, .move (.const (.int .i64 0)), (some 47)⟩]
def sc48r6 : List SOp := [⟨none, .binOp .lss 3 (.tmp 47) (.tmp 46) 3, (some 48)⟩]
def sc48r7 : List SOp := [⟨none, .indexAddr 171 (.tmp 45) (.tmp 47), (some 49)⟩,
 ldO 48 49 50,
 ⟨none, .alloc 48, (some 7)⟩,
 ⟨none, .store 48 (.tmp 7) (.tmp 50), none⟩]
def sc48r8 : List SOp := [ldO 48 7 51,
 ⟨none, .build 48 #[], (some 52)⟩,
 ⟨none, .binOp .eql 48 (.tmp 51) (.tmp 52) 48, (some 53)⟩,
 mvO 53 54,
 ⟨(some (some 54, false)), .fieldAddr 48 (.tmp 7) 0, (some 55)⟩,
 ⟨(some (some 54, false)), .load 3 (.tmp 55), (some 56)⟩,
 ⟨(some (some 54, false)), .binOp .geq 3 (.tmp 56) (.const (.int .i64 2)) 3, (some 57)⟩,
 ⟨(some (some 54, false)), .move (.tmp 57), (some 58)⟩,
 ⟨(some (some 58, true)), .fieldAddr 48 (.tmp 7) 0, (some 59)⟩,
 ⟨(some (some 58, true)), .load 3 (.tmp 59), (some 60)⟩,
 ⟨(some (some 58, true)), .binOp .lss 3 (.tmp 60) (.const (.int .i64 4096)) 3, (some 61)⟩,
 ⟨(some (some 54, false)), .pick (.tmp 58) (.tmp 61) (.const (.bool false)), (some 62)⟩,
 ⟨(some (some 54, false)), .move (.tmp 62), (some 63)⟩,
 ⟨(some (some 63, true)), .fieldAddr 48 (.tmp 7) 1, (some 64)⟩,
 ⟨(some (some 63, true)), .load 3 (.tmp 64), (some 65)⟩,
 ⟨(some (some 63, true)), .binOp .geq 3 (.tmp 65) (.const (.int .i64 1)) 3, (some 66)⟩,
 ⟨(some (some 54, false)), .pick (.tmp 63) (.tmp 66) (.const (.bool false)), (some 67)⟩,
 ⟨(some (some 54, false)), .move (.tmp 67), (some 68)⟩,
 ⟨(some (some 68, true)), .fieldAddr 48 (.tmp 7) 1, (some 69)⟩,
 ⟨(some (some 68, true)), .load 3 (.tmp 69), (some 70)⟩,
 ⟨(some (some 68, true)), .binOp .leq 3 (.tmp 70) (.const (.int .i64 2147483647)) 3, (some 71)⟩,
 ⟨(some (some 54, false)), .pick (.tmp 68) (.tmp 71) (.const (.bool false)), (some 72)⟩,
 ⟨none, .pick (.tmp 54) (.const (.bool true)) (.tmp 72), (some 73)⟩,
 ⟨none, .call { callee := .value (.func 53), args := #[(.tmp 73), (.const (.int .i64 2))], argTypes := #[4, 25] }, (some 74)⟩]
def sc48r9 : List SOp := [⟨none, .binOp .add 3 (.tmp 47) (.const (.int .i64 1)) 3, (some 75)⟩,
 mvO 75 47]
def sc48l10 : SC := (.seq (.reg sc48r6) (.seq (.cond (.tmp 48) .skip (.exit 0)) (.seq (.block 1 (.seq (.reg sc48r7) (.reg sc48r8))) (.reg sc48r9))))
def sc48r11 : List SOp := [mvO 1 76,
 ⟨none, .call { callee := .builtin .len, args := #[(.tmp 76)], argTypes := #[171] }, (some 77)⟩,
 ⟨none, .move (.const (.int .i64 0)), (some 78)⟩]
def sc48r12 : List SOp := [⟨none, .binOp .lss 3 (.tmp 78) (.tmp 77) 3, (some 79)⟩]
def sc48r13 : List SOp := [⟨none, .indexAddr 171 (.tmp 76) (.tmp 78), (some 80)⟩,
 ldO 48 80 81,
 ⟨none, .alloc 48, (some 9)⟩,
 ⟨none, .store 48 (.tmp 9) (.tmp 81), none⟩]
def sc48r14 : List SOp := [faO 48 9 0 82,
 ldO 3 82 83,
 ⟨none, .binOp .neq 3 (.tmp 83) (.const (.int .i64 0)) 3, (some 84)⟩]
def sc48r15 : List (SOp × DK) := [(⟨none, .fieldAddr 48 (.tmp 9) 0, (some 85)⟩, .L 0 0 []),
 (⟨none, .load 3 (.tmp 85), (some 86)⟩, .L 0 0 []),
 (⟨none, .move (.tmp 5), (some 87)⟩, .L 0 0 []),
 (⟨none, .nilCheck (.tmp 87), (some 88)⟩, .L 0 0 []),
 (⟨none, .fieldAddr 101 (.tmp 88) 0, (some 89)⟩, .L 0 0 []),
 (⟨none, .fieldAddr 41 (.tmp 89) 0, (some 90)⟩, .L 0 0 []),
 (⟨none, .load 38 (.tmp 90), (some 91)⟩, .L 0 0 []),
 (⟨none, .call { callee := .builtin .len, args := #[(.tmp 91)], argTypes := #[38] }, (some 92)⟩, .L 0 0 []),
 (⟨none, .binOp .lss 3 (.tmp 86) (.tmp 92) 3, (some 93)⟩, .L 0 0 []),
 (⟨none, .call { callee := .value (.func 53), args := #[(.tmp 93), (.const (.int .i64 8))], argTypes := #[4, 25] }, (some 94)⟩, .A [85, 86, 87, 88, 89, 90, 91, 92, 93, 94] [])]
def sc48d15 : SC := .draw sc48r15
def sc48r16 : List (SOp × DK) := [(⟨none, .move (.tmp 5), (some 95)⟩, .L 0 0 []),
 (⟨none, .fieldAddr 48 (.tmp 9) 0, (some 96)⟩, .L 0 0 []),
 (⟨none, .load 3 (.tmp 96), (some 97)⟩, .L 0 0 []),
 (⟨none, .move (.tmp 5), (some 98)⟩, .L 0 0 []),
 (⟨none, .nilCheck (.tmp 98), (some 99)⟩, .L 0 0 []),
 (⟨none, .fieldAddr 101 (.tmp 99) 0, (some 100)⟩, .L 0 0 []),
 (⟨none, .fieldAddr 41 (.tmp 100) 0, (some 101)⟩, .L 0 0 []),
 (⟨none, .load 38 (.tmp 101), (some 102)⟩, .L 0 0 []),
 (⟨none, .fieldAddr 48 (.tmp 9) 0, (some 103)⟩, .L 0 0 []),
 (⟨none, .load 3 (.tmp 103), (some 104)⟩, .L 0 0 []),
 (⟨none, .indexAddr 38 (.tmp 102) (.tmp 104), (some 105)⟩, .L 0 0 []),
 (⟨none, .fieldAddr 79 (.tmp 105) 4, (some 106)⟩, .L 0 0 []),
 (⟨none, .load 3 (.tmp 106), (some 107)⟩, .L 0 0 []),
 (⟨none, .call { callee := .value (.func 99), args := #[(.tmp 95), (.tmp 97), (.tmp 107)], argTypes := #[97, 3, 3] }, (some 108)⟩, .A [95, 96, 97, 98, 99, 100, 101, 102, 103, 104, 105, 106, 107, 108] [])]
def sc48d16 : SC := .draw sc48r16
def sc48r17 : List SOp := [⟨none, .binOp .add 3 (.tmp 78) (.const (.int .i64 1)) 3, (some 109)⟩,
 mvO 109 78]
def sc48l18 : SC := (.seq (.reg sc48r12) (.seq (.cond (.tmp 79) .skip (.exit 2)) (.seq (.block 3 (.seq (.reg sc48r13) (.seq (.reg sc48r14) (.cond (.tmp 84) (.seq sc48d15 sc48d16) .skip)))) (.reg sc48r17))))
def sc48r19 : List SOp := [mvO 5 110,
 asO 110 4]
def sc48 : SC := (.seq (.reg sc48r0) (.seq (.reg sc48r1) (.seq (.reg sc48r2) (.seq (.reg sc48r3) (.seq sc48d4 (.seq (.seq (.reg sc48r5) (.block 0 (.loop sc48l10))) (.seq (.seq (.reg sc48r11) (.block 2 (.loop sc48l18))) (.seq (.reg sc48r19) .ret))))))))
theorem ext48 : cx.ext 48 = none := by kernel_rfl
theorem ct48 : CT 48 111 sc48 [.tmp 4] := mkCT (fn := Tryz.f48) (by kernel_rfl) (by kernel_rfl) rfl rfl (by kernel_rfl)
-- understory/tree.need
def sc53r0 : List SOp := [mvO 0 4,
 ⟨none, .unOp .not 4 (.tmp 4), (some 5)⟩]
def sc53r1 : List SOp := [mvO 1 6,
 ⟨none, .build 170 #[(0, (.tmp 6))], (some 7)⟩,
 ⟨none, .makeInterface 170 (.tmp 7), (some 8)⟩,
 ⟨none, .panic (.tmp 8), none⟩]
def sc53 : SC := (.seq (.reg sc53r0) (.cond (.tmp 5) (.reg sc53r1) .skip))
theorem ext53 : cx.ext 53 = none := by kernel_rfl
theorem ct53 : CT 53 9 sc53 [] := mkCT (fn := Tryz.f53) (by kernel_rfl) (by kernel_rfl) rfl rfl (by kernel_rfl)
-- understory/tree.Sound
def sc18r0 : List SOp := [⟨none, .box 41 (.tmp 0), (some 1)⟩,
 ⟨none, .assign (.const (.int .i64 0)), (some 2)⟩]
def sc18r1 : List SOp := [faO 41 1 0 9,
 ldO 38 9 10,
 ⟨none, .call { callee := .builtin .len, args := #[(.tmp 10)], argTypes := #[38] }, (some 11)⟩,
 asO 11 3]
def sc18r2 : List SOp := [mvO 3 12,
 ⟨none, .binOp .lss 3 (.tmp 12) (.const (.int .i64 2)) 3, (some 13)⟩,
 mvO 13 14,
 ⟨(some (some 14, false)), .move (.tmp 3), (some 15)⟩,
 ⟨(some (some 14, false)), .binOp .gtr 3 (.tmp 15) (.const (.int .i64 4096)) 3, (some 16)⟩,
 ⟨none, .pick (.tmp 14) (.const (.bool true)) (.tmp 16), (some 17)⟩,
 mvO 17 18,
 ⟨(some (some 18, false)), .fieldAddr 41 (.tmp 1) 4, (some 19)⟩,
 ⟨(some (some 18, false)), .load 3 (.tmp 19), (some 20)⟩,
 ⟨(some (some 18, false)), .binOp .lss 3 (.tmp 20) (.const (.int .i64 0)) 3, (some 21)⟩,
 ⟨none, .pick (.tmp 18) (.const (.bool true)) (.tmp 21), (some 22)⟩,
 mvO 22 23,
 ⟨(some (some 23, false)), .fieldAddr 41 (.tmp 1) 4, (some 24)⟩,
 ⟨(some (some 23, false)), .load 3 (.tmp 24), (some 25)⟩,
 ⟨(some (some 23, false)), .binOp .gtr 3 (.tmp 25) (.const (.int .i64 1099511627776)) 3, (some 26)⟩,
 ⟨none, .pick (.tmp 23) (.const (.bool true)) (.tmp 26), (some 27)⟩,
 mvO 27 28,
 ⟨(some (some 28, false)), .fieldAddr 41 (.tmp 1) 5, (some 29)⟩,
 ⟨(some (some 28, false)), .load 3 (.tmp 29), (some 30)⟩,
 ⟨(some (some 28, false)), .binOp .lss 3 (.tmp 30) (.const (.int .i64 0)) 3, (some 31)⟩,
 ⟨none, .pick (.tmp 28) (.const (.bool true)) (.tmp 31), (some 32)⟩,
 mvO 32 33,
 ⟨(some (some 33, false)), .fieldAddr 41 (.tmp 1) 5, (some 34)⟩,
 ⟨(some (some 33, false)), .load 3 (.tmp 34), (some 35)⟩,
 ⟨(some (some 33, false)), .binOp .gtr 3 (.tmp 35) (.const (.int .i64 255)) 3, (some 36)⟩,
 ⟨none, .pick (.tmp 33) (.const (.bool true)) (.tmp 36), (some 37)⟩]
def sc18r3 : List SOp := [⟨none, .assign (.const (.int .i64 2)), (some 2)⟩]
def sc18r4 : List SOp := [mvO 3 38,
 ⟨none, .makeSlice 109 (.tmp 38) (.tmp 38), (some 39)⟩,
 asO 39 4]
def sc18r5 : List SOp := [faO 41 1 1 40,
 ldO 39 40 41,
 faO 41 1 2 42,
 ldO 39 42 43,
 faO 41 1 3 44,
 ldO 39 44 45,
 ⟨none, .buildSlice 110 3 #[(0, (.tmp 41)), (1, (.tmp 43)), (2, (.tmp 45))], (some 46)⟩,
 ⟨none, .call { callee := .builtin .len, args := #[(.tmp 46)], argTypes := #[110] }, (some 47)⟩,
 ⟨none, .move (.const (.int .i64 0)), (some 48)⟩]
def sc18r6 : List SOp := [⟨none, .binOp .lss 3 (.tmp 48) (.tmp 47) 3, (some 49)⟩]
def sc18r7 : List SOp := [⟨none, .indexAddr 110 (.tmp 46) (.tmp 48), (some 50)⟩,
 ldO 39 50 51,
 asO 51 6]
def sc18r8 : List SOp := [mvO 6 52,
 ⟨none, .call { callee := .builtin .len, args := #[(.tmp 52)], argTypes := #[39] }, (some 53)⟩,
 ⟨none, .move (.const (.int .i64 0)), (some 54)⟩]
def sc18r9 : List SOp := [⟨none, .binOp .lss 3 (.tmp 54) (.tmp 53) 3, (some 55)⟩]
def sc18r10 : List SOp := [mvO 54 56,
 ⟨none, .indexAddr 39 (.tmp 52) (.tmp 54), (some 57)⟩,
 ldO 3 57 58,
 asO 56 7,
 asO 58 8]
def sc18r11 : List SOp := [mvO 8 59,
 ⟨none, .binOp .lss 3 (.tmp 59) (.const (.int .i64 2)) 3, (some 60)⟩,
 mvO 60 61,
 ⟨(some (some 61, false)), .move (.tmp 8), (some 62)⟩,
 ⟨(some (some 61, false)), .move (.tmp 3), (some 63)⟩,
 ⟨(some (some 61, false)), .binOp .geq 3 (.tmp 62) (.tmp 63) 3, (some 64)⟩,
 ⟨none, .pick (.tmp 61) (.const (.bool true)) (.tmp 64), (some 65)⟩,
 mvO 65 66,
 ⟨(some (some 66, false)), .move (.tmp 4), (some 67)⟩,
 ⟨(some (some 66, false)), .move (.tmp 8), (some 68)⟩,
 ⟨(some (some 66, false)), .indexAddr 109 (.tmp 67) (.tmp 68), (some 69)⟩,
 ⟨(some (some 66, false)), .load 4 (.tmp 69), (some 70)⟩,
 ⟨none, .pick (.tmp 66) (.const (.bool true)) (.tmp 70), (some 71)⟩,
 mvO 71 72,
 ⟨(some (some 72, false)), .move (.tmp 7), (some 73)⟩,
 ⟨(some (some 72, false)), .binOp .gtr 3 (.tmp 73) (.const (.int .i64 0)) 3, (some 74)⟩,
 ⟨(some (some 72, false)), .move (.tmp 74), (some 75)⟩,
 ⟨(some (some 75, true)), .move (.tmp 8), (some 76)⟩,
 ⟨(some (some 75, true)), .move (.tmp 6), (some 77)⟩,
 ⟨(some (some 75, true)), .move (.tmp 7), (some 78)⟩,
 ⟨(some (some 75, true)), .binOp .sub 3 (.tmp 78) (.const (.int .i64 1)) 3, (some 79)⟩,
 ⟨(some (some 75, true)), .indexAddr 39 (.tmp 77) (.tmp 79), (some 80)⟩,
 ⟨(some (some 75, true)), .load 3 (.tmp 80), (some 81)⟩,
 ⟨(some (some 75, true)), .binOp .leq 3 (.tmp 76) (.tmp 81) 3, (some 82)⟩,
 ⟨(some (some 72, false)), .pick (.tmp 75) (.tmp 82) (.const (.bool false)), (some 83)⟩,
 ⟨none, .pick (.tmp 72) (.const (.bool true)) (.tmp 83), (some 84)⟩]
def sc18r12 : List SOp := [⟨none, .assign (.const (.int .i64 2)), (some 2)⟩]
def sc18r13 : List SOp := [mvO 4 85,
 mvO 8 86,
 ⟨none, .indexAddr 109 (.tmp 85) (.tmp 86), (some 87)⟩,
 ⟨none, .store 4 (.tmp 87) (.const (.bool true)), none⟩]
def sc18r14 : List SOp := [⟨none, .binOp .add 3 (.tmp 54) (.const (.int .i64 1)) 3, (some 88)⟩,
 mvO 88 54]
def sc18l15 : SC := (.seq (.reg sc18r9) (.seq (.cond (.tmp 55) .skip (.exit 2)) (.seq (.block 3 (.seq (.reg sc18r10) (.seq (.seq (.reg sc18r11) (.cond (.tmp 84) (.seq (.reg sc18r12) .ret) .skip)) (.reg sc18r13)))) (.reg sc18r14))))
def sc18r16 : List SOp := [⟨none, .binOp .add 3 (.tmp 48) (.const (.int .i64 1)) 3, (some 89)⟩,
 mvO 89 48]
def sc18l17 : SC := (.seq (.reg sc18r6) (.seq (.cond (.tmp 49) .skip (.exit 0)) (.seq (.block 1 (.seq (.reg sc18r7) (.seq (.reg sc18r8) (.block 2 (.loop sc18l15))))) (.reg sc18r16))))
def sc18r18 : List SOp := [⟨none, .assign (.const (.int .i64 0)), (some 2)⟩]
def sc18 : SC := (.seq (.reg sc18r0) (.seq (.reg sc18r1) (.seq (.seq (.reg sc18r2) (.cond (.tmp 37) (.seq (.reg sc18r3) .ret) .skip)) (.seq (.reg sc18r4) (.seq (.seq (.reg sc18r5) (.block 0 (.loop sc18l17))) (.seq (.reg sc18r18) .ret))))))
theorem ext18 : cx.ext 18 = none := by kernel_rfl
theorem ct18 : CT 18 90 sc18 [.tmp 2] := mkCT (fn := Tryz.f18) (by kernel_rfl) (by kernel_rfl) rfl rfl (by kernel_rfl)
-- slices.Clone[[]understory/api.Page,understory/api.Page]
def sc102r0 : List SOp := [⟨none, .assign (.const (.slice none 0 0)), (some 2)⟩]
def sc102r1 : List SOp := [mvO 0 3,
 ⟨none, .binOp .eql 38 (.tmp 3) (.const (.slice none 0 0)) 38, (some 4)⟩]
def sc102r2 : List SOp := [⟨none, .assign (.const (.slice none 0 0)), (some 2)⟩]
def sc102r3 : List SOp := [⟨none, .buildSlice 38 0 #[], (some 5)⟩,
 mvO 0 6,
 ⟨none, .call { callee := .builtin .append, args := #[(.tmp 5), (.tmp 6)], argTypes := #[38, 38] }, (some 7)⟩,
 asO 7 2]
def sc102 : SC := (.seq (.reg sc102r0) (.seq (.seq (.reg sc102r1) (.cond (.tmp 4) (.seq (.reg sc102r2) .ret) .skip)) (.seq (.reg sc102r3) .ret)))
theorem ext102 : cx.ext 102 = none := by kernel_rfl
theorem ct102 : CT 102 8 sc102 [.tmp 2] := mkCT (fn := Tryz.f102) (by kernel_rfl) (by kernel_rfl) rfl rfl (by kernel_rfl)
-- slices.Clone[[]int,int]
def sc103r0 : List SOp := [⟨none, .assign (.const (.slice none 0 0)), (some 2)⟩]
def sc103r1 : List SOp := [mvO 0 3,
 ⟨none, .binOp .eql 39 (.tmp 3) (.const (.slice none 0 0)) 39, (some 4)⟩]
def sc103r2 : List SOp := [⟨none, .assign (.const (.slice none 0 0)), (some 2)⟩]
def sc103r3 : List SOp := [⟨none, .buildSlice 39 0 #[], (some 5)⟩,
 mvO 0 6,
 ⟨none, .call { callee := .builtin .append, args := #[(.tmp 5), (.tmp 6)], argTypes := #[39, 39] }, (some 7)⟩,
 asO 7 2]
def sc103 : SC := (.seq (.reg sc103r0) (.seq (.seq (.reg sc103r1) (.cond (.tmp 4) (.seq (.reg sc103r2) .ret) .skip)) (.seq (.reg sc103r3) .ret)))
theorem ext103 : cx.ext 103 = none := by kernel_rfl
theorem ct103 : CT 103 8 sc103 [.tmp 2] := mkCT (fn := Tryz.f103) (by kernel_rfl) (by kernel_rfl) rfl rfl (by kernel_rfl)
-- (*understory/tree.work).take
def sc49r0 : List SOp := [⟨none, .assign (.const (.int .i64 0)), (some 2)⟩]
def sc49r1 : List SOp := [mvO 0 4,
 ncO 4 5,
 faO 101 5 0 6,
 faO 41 6 0 7,
 ldO 38 7 8,
 ⟨none, .call { callee := .builtin .len, args := #[(.tmp 8)], argTypes := #[38] }, (some 9)⟩,
 asO 9 3]
def sc49r2 : List SOp := [mvO 0 10,
 ncO 10 11,
 faO 101 11 0 12,
 faO 41 12 1 13,
 ldO 39 13 14,
 ⟨none, .call { callee := .builtin .len, args := #[(.tmp 14)], argTypes := #[39] }, (some 15)⟩,
 ⟨none, .binOp .gtr 3 (.tmp 15) (.const (.int .i64 0)) 3, (some 16)⟩]
def sc49r3 : List SOp := [mvO 0 17,
 ncO 17 18,
 faO 101 18 0 19,
 faO 41 19 1 20,
 ldO 39 20 21,
 ⟨none, .indexAddr 39 (.tmp 21) (.const (.int .i64 0)), (some 22)⟩,
 ldO 3 22 23,
 asO 23 3]
def sc49r4 : List SOp := [mvO 0 24,
 mvO 0 25,
 ncO 25 26,
 faO 101 26 0 27,
 faO 41 27 1 28,
 ldO 39 28 29,
 ⟨none, .slice 39 (.tmp 29) (some (.const (.int .i64 1))) none none, (some 30)⟩,
 ⟨none, .call { callee := .value (.func 103), args := #[(.tmp 30)], argTypes := #[39] }, (some 31)⟩,
 ncO 24 32,
 faO 101 32 0 33,
 faO 41 33 1 34,
 ⟨none, .store 39 (.tmp 34) (.tmp 31), none⟩]
def sc49r5 : List SOp := [mvO 3 35,
 ⟨none, .binOp .lss 3 (.tmp 35) (.const (.int .i64 4096)) 3, (some 36)⟩,
 ⟨none, .call { callee := .value (.func 53), args := #[(.tmp 36), (.const (.int .i64 7))], argTypes := #[4, 25] }, (some 37)⟩]
def sc49r6 : List SOp := [mvO 0 38,
 mvO 0 39,
 ncO 39 40,
 faO 101 40 0 41,
 faO 41 41 0 42,
 ldO 38 42 43,
 ⟨none, .build 79 #[], (some 44)⟩,
 ⟨none, .buildSlice 38 1 #[(0, (.tmp 44))], (some 45)⟩,
 ⟨none, .call { callee := .builtin .append, args := #[(.tmp 43), (.tmp 45)], argTypes := #[38, 38] }, (some 46)⟩,
 ncO 38 47,
 faO 101 47 0 48,
 faO 41 48 0 49,
 ⟨none, .store 38 (.tmp 49) (.tmp 46), none⟩]
def sc49r7 : List SOp := [mvO 0 50,
 mvO 0 51,
 ncO 51 52,
 faO 101 52 0 53,
 faO 41 53 2 54,
 ldO 39 54 55,
 mvO 3 56,
 ⟨none, .call { callee := .value (.func 104), args := #[(.tmp 55), (.tmp 56)], argTypes := #[39, 3] }, (some 57)⟩,
 ncO 50 58,
 faO 101 58 0 59,
 faO 41 59 2 60,
 ⟨none, .store 39 (.tmp 60) (.tmp 57), none⟩]
def sc49r8 : List SOp := [mvO 3 61,
 asO 61 2]
def sc49 : SC := (.seq (.reg sc49r0) (.seq (.reg sc49r1) (.seq (.seq (.reg sc49r2) (.cond (.tmp 16) (.seq (.reg sc49r3) (.reg sc49r4)) (.seq (.reg sc49r5) (.reg sc49r6)))) (.seq (.reg sc49r7) (.seq (.reg sc49r8) .ret)))))
theorem ext49 : cx.ext 49 = none := by kernel_rfl
theorem ct49 : CT 49 62 sc49 [.tmp 2] := mkCT (fn := Tryz.f49) (by kernel_rfl) (by kernel_rfl) rfl rfl (by kernel_rfl)
-- understory/tree.with[int]
def sc104r0 : List SOp := [⟨none, .assign (.const (.slice none 0 0)), (some 4)⟩]
def sc104r1 : List SOp := [mvO 0 8,
 mvO 1 9,
 ⟨none, .call { callee := .value (.func 107), args := #[(.tmp 8), (.tmp 9)], argTypes := #[39, 3] }, (some 10)⟩,
 mvO 10 7,
 ⟨none, .extract (.tmp 7) 0, (some 11)⟩,
 ⟨none, .extract (.tmp 7) 1, (some 12)⟩,
 asO 11 5,
 asO 12 6]
def sc104r2 : List SOp := [mvO 6 13]
def sc104r3 : List SOp := [mvO 0 14,
 asO 14 4]
def sc104r4 : List SOp := [mvO 0 15,
 ⟨none, .call { callee := .value (.func 103), args := #[(.tmp 15)], argTypes := #[39] }, (some 16)⟩,
 mvO 5 17,
 mvO 1 18,
 ⟨none, .buildSlice 39 1 #[(0, (.tmp 18))], (some 19)⟩,
 ⟨none, .call { callee := .value (.func 144), args := #[(.tmp 16), (.tmp 17), (.tmp 19)], argTypes := #[39, 3, 39] }, (some 20)⟩,
 asO 20 4]
def sc104 : SC := (.seq (.reg sc104r0) (.seq (.reg sc104r1) (.seq (.seq (.reg sc104r2) (.cond (.tmp 13) (.seq (.reg sc104r3) .ret) .skip)) (.seq (.reg sc104r4) .ret))))
theorem ext104 : cx.ext 104 = none := by kernel_rfl
theorem ct104 : CT 104 21 sc104 [.tmp 4] := mkCT (fn := Tryz.f104) (by kernel_rfl) (by kernel_rfl) rfl rfl (by kernel_rfl)
-- slices.BinarySearch[[]int,int]
def sc107r0 : List SOp := [⟨none, .assign (.const (.int .i64 0)), (some 4)⟩,
 ⟨none, .assign (.const (.bool false)), (some 5)⟩]
def sc107r1 : List SOp := [mvO 0 10,
 ⟨none, .call { callee := .builtin .len, args := #[(.tmp 10)], argTypes := #[39] }, (some 11)⟩,
 asO 11 6]
def sc107r2 : List SOp := [mvO 6 12,
 ⟨none, .assign (.const (.int .i64 0)), (some 7)⟩,
 asO 12 8]
def sc107r3 : List SOp := [mvO 7 13,
 mvO 8 14,
 ⟨none, .binOp .lss 3 (.tmp 13) (.tmp 14) 3, (some 15)⟩]
def sc107r4 : List SOp := [mvO 7 16,
 mvO 8 17,
 ⟨none, .binOp .add 3 (.tmp 16) (.tmp 17) 3, (some 18)⟩,
 ⟨none, .convert 3 228 (.tmp 18), (some 19)⟩,
 ⟨none, .binOp .shr 228 (.tmp 19) (.const (.int .u64 1)) 228, (some 20)⟩,
 ⟨none, .convert 228 3 (.tmp 20), (some 21)⟩,
 asO 21 9]
def sc107r5 : List SOp := [mvO 0 22,
 mvO 9 23,
 ⟨none, .indexAddr 39 (.tmp 22) (.tmp 23), (some 24)⟩,
 ldO 3 24 25,
 mvO 1 26,
 ⟨none, .call { callee := .value (.func 145), args := #[(.tmp 25), (.tmp 26)], argTypes := #[3, 3] }, (some 27)⟩]
def sc107r6 : List SOp := [mvO 9 28,
 ⟨none, .binOp .add 3 (.tmp 28) (.const (.int .i64 1)) 3, (some 29)⟩,
 asO 29 7]
def sc107r7 : List SOp := [mvO 9 30,
 asO 30 8]
def sc107l8 : SC := (.seq (.seq (.reg sc107r3) (.cond (.tmp 15) .skip (.exit 0))) (.block 1 (.seq (.reg sc107r4) (.seq (.reg sc107r5) (.cond (.tmp 27) (.reg sc107r6) (.reg sc107r7))))))
def sc107r9 : List SOp := [mvO 7 31,
 mvO 7 32,
 mvO 6 33,
 ⟨none, .binOp .lss 3 (.tmp 32) (.tmp 33) 3, (some 34)⟩,
 mvO 34 35,
 ⟨(some (some 35, true)), .move (.tmp 0), (some 36)⟩,
 ⟨(some (some 35, true)), .move (.tmp 7), (some 37)⟩,
 ⟨(some (some 35, true)), .indexAddr 39 (.tmp 36) (.tmp 37), (some 38)⟩,
 ⟨(some (some 35, true)), .load 3 (.tmp 38), (some 39)⟩,
 ⟨(some (some 35, true)), .move (.tmp 1), (some 40)⟩,
 ⟨(some (some 35, true)), .binOp .eql 3 (.tmp 39) (.tmp 40) 3, (some 41)⟩,
 ⟨(some (some 35, true)), .move (.tmp 41), (some 42)⟩,
 ⟨(some (some 42, false)), .move (.tmp 0), (some 43)⟩,
 ⟨(some (some 42, false)), .move (.tmp 7), (some 44)⟩,
 ⟨(some (some 42, false)), .indexAddr 39 (.tmp 43) (.tmp 44), (some 45)⟩,
 ⟨(some (some 42, false)), .load 3 (.tmp 45), (some 46)⟩,
 ⟨(some (some 42, false)), .call { callee := .value (.func 146), args := #[(.tmp 46)], argTypes := #[3] }, (some 47)⟩,
 ⟨(some (some 42, false)), .move (.tmp 47), (some 48)⟩,
 ⟨(some (some 48, true)), .move (.tmp 1), (some 49)⟩,
 ⟨(some (some 48, true)), .call { callee := .value (.func 146), args := #[(.tmp 49)], argTypes := #[3] }, (some 50)⟩,
 ⟨(some (some 42, false)), .pick (.tmp 48) (.tmp 50) (.const (.bool false)), (some 51)⟩,
 ⟨(some (some 35, true)), .pick (.tmp 42) (.const (.bool true)) (.tmp 51), (some 52)⟩,
 ⟨none, .pick (.tmp 35) (.tmp 52) (.const (.bool false)), (some 53)⟩,
 asO 31 4,
 asO 53 5]
def sc107 : SC := (.seq (.reg sc107r0) (.seq (.reg sc107r1) (.seq (.reg sc107r2) (.seq (.block 0 (.loop sc107l8)) (.seq (.reg sc107r9) .ret)))))
theorem ext107 : cx.ext 107 = none := by kernel_rfl
theorem ct107 : CT 107 54 sc107 [.tmp 4, .tmp 5] := mkCT (fn := Tryz.f107) (by kernel_rfl) (by kernel_rfl) rfl rfl (by kernel_rfl)
-- cmp.Less[int]
def sc145r0 : List SOp := [⟨none, .assign (.const (.bool false)), (some 4)⟩]
def sc145r1 : List SOp := [mvO 0 5,
 ⟨none, .call { callee := .value (.func 183), args := #[(.tmp 5)], argTypes := #[3] }, (some 6)⟩,
 mvO 6 7,
 ⟨(some (some 7, true)), .move (.tmp 1), (some 8)⟩,
 ⟨(some (some 7, true)), .call { callee := .value (.func 183), args := #[(.tmp 8)], argTypes := #[3] }, (some 9)⟩,
 ⟨(some (some 7, true)), .unOp .not 4 (.tmp 9), (some 10)⟩,
 ⟨none, .pick (.tmp 7) (.tmp 10) (.const (.bool false)), (some 11)⟩,
 mvO 11 12,
 ⟨(some (some 12, false)), .move (.tmp 0), (some 13)⟩,
 ⟨(some (some 12, false)), .move (.tmp 1), (some 14)⟩,
 ⟨(some (some 12, false)), .binOp .lss 3 (.tmp 13) (.tmp 14) 3, (some 15)⟩,
 ⟨none, .pick (.tmp 12) (.const (.bool true)) (.tmp 15), (some 16)⟩,
 asO 16 4]
def sc145 : SC := (.seq (.reg sc145r0) (.seq (.reg sc145r1) .ret))
theorem ext145 : cx.ext 145 = none := by kernel_rfl
theorem ct145 : CT 145 17 sc145 [.tmp 4] := mkCT (fn := Tryz.f145) (by kernel_rfl) (by kernel_rfl) rfl rfl (by kernel_rfl)
-- slices.isNaN[int]
def sc146r0 : List SOp := [⟨none, .assign (.const (.bool false)), (some 2)⟩]
def sc146r1 : List SOp := [mvO 0 3,
 mvO 0 4,
 ⟨none, .binOp .neq 3 (.tmp 3) (.tmp 4) 3, (some 5)⟩,
 asO 5 2]
def sc146 : SC := (.seq (.reg sc146r0) (.seq (.reg sc146r1) .ret))
theorem ext146 : cx.ext 146 = none := by kernel_rfl
theorem ct146 : CT 146 6 sc146 [.tmp 2] := mkCT (fn := Tryz.f146) (by kernel_rfl) (by kernel_rfl) rfl rfl (by kernel_rfl)
-- cmp.isNaN[int]
def sc183r0 : List SOp := [⟨none, .assign (.const (.bool false)), (some 2)⟩]
def sc183r1 : List SOp := [mvO 0 3,
 mvO 0 4,
 ⟨none, .binOp .neq 3 (.tmp 3) (.tmp 4) 3, (some 5)⟩,
 asO 5 2]
def sc183 : SC := (.seq (.reg sc183r0) (.seq (.reg sc183r1) .ret))
theorem ext183 : cx.ext 183 = none := by kernel_rfl
theorem ct183 : CT 183 6 sc183 [.tmp 2] := mkCT (fn := Tryz.f183) (by kernel_rfl) (by kernel_rfl) rfl rfl (by kernel_rfl)
-- understory/tree.Release
def sc16r0 : List SOp := [⟨none, .box 41 (.tmp 0), (some 2)⟩,
 ⟨none, .alloc 41, (some 4)⟩,
 ⟨none, .alloc 25, (some 5)⟩]
def sc16r1 : List SOp := [⟨none, .defer { callee := .value (.func 47), args := #[(.tmp 5)], argTypes := #[96] }, none⟩]
def sc16r2 : List SOp := [ldO 41 2 7,
 ⟨none, .call { callee := .value (.func 48), args := #[(.tmp 7), (.const (.slice none 0 0))], argTypes := #[41, 171] }, (some 8)⟩,
 asO 8 6]
def sc16r3 : List SOp := [mvO 1 9,
 ⟨none, .binOp .geq 3 (.tmp 9) (.const (.int .i64 2)) 3, (some 10)⟩,
 mvO 10 11,
 ⟨(some (some 11, true)), .move (.tmp 1), (some 12)⟩,
 ⟨(some (some 11, true)), .move (.tmp 6), (some 13)⟩,
 ⟨(some (some 11, true)), .nilCheck (.tmp 13), (some 14)⟩,
 ⟨(some (some 11, true)), .fieldAddr 101 (.tmp 14) 0, (some 15)⟩,
 ⟨(some (some 11, true)), .fieldAddr 41 (.tmp 15) 0, (some 16)⟩,
 ⟨(some (some 11, true)), .load 38 (.tmp 16), (some 17)⟩,
 ⟨(some (some 11, true)), .call { callee := .builtin .len, args := #[(.tmp 17)], argTypes := #[38] }, (some 18)⟩,
 ⟨(some (some 11, true)), .binOp .lss 3 (.tmp 12) (.tmp 18) 3, (some 19)⟩,
 ⟨none, .pick (.tmp 11) (.tmp 19) (.const (.bool false)), (some 20)⟩,
 mvO 20 21,
 ⟨(some (some 21, true)), .move (.tmp 6), (some 22)⟩,
 ⟨(some (some 21, true)), .nilCheck (.tmp 22), (some 23)⟩,
 ⟨(some (some 21, true)), .fieldAddr 101 (.tmp 23) 0, (some 24)⟩,
 ⟨(some (some 21, true)), .fieldAddr 41 (.tmp 24) 1, (some 25)⟩,
 ⟨(some (some 21, true)), .load 39 (.tmp 25), (some 26)⟩,
 ⟨(some (some 21, true)), .move (.tmp 1), (some 27)⟩,
 ⟨(some (some 21, true)), .call { callee := .value (.func 54), args := #[(.tmp 26), (.tmp 27)], argTypes := #[39, 3] }, (some 28)⟩,
 ⟨(some (some 21, true)), .unOp .not 4 (.tmp 28), (some 29)⟩,
 ⟨none, .pick (.tmp 21) (.tmp 29) (.const (.bool false)), (some 30)⟩,
 mvO 30 31,
 ⟨(some (some 31, true)), .move (.tmp 6), (some 32)⟩,
 ⟨(some (some 31, true)), .nilCheck (.tmp 32), (some 33)⟩,
 ⟨(some (some 31, true)), .fieldAddr 101 (.tmp 33) 0, (some 34)⟩,
 ⟨(some (some 31, true)), .fieldAddr 41 (.tmp 34) 3, (some 35)⟩,
 ⟨(some (some 31, true)), .load 39 (.tmp 35), (some 36)⟩,
 ⟨(some (some 31, true)), .move (.tmp 1), (some 37)⟩,
 ⟨(some (some 31, true)), .call { callee := .value (.func 54), args := #[(.tmp 36), (.tmp 37)], argTypes := #[39, 3] }, (some 38)⟩,
 ⟨(some (some 31, true)), .unOp .not 4 (.tmp 38), (some 39)⟩,
 ⟨none, .pick (.tmp 31) (.tmp 39) (.const (.bool false)), (some 40)⟩,
 ⟨none, .call { callee := .value (.func 53), args := #[(.tmp 40), (.const (.int .i64 1))], argTypes := #[4, 25] }, (some 41)⟩]
def sc16r4 : List SOp := [mvO 6 42,
 mvO 1 43,
 ⟨none, .call { callee := .value (.func 55), args := #[(.tmp 42), (.tmp 43)], argTypes := #[97, 3] }, (some 44)⟩]
def sc16r5 : List SOp := [mvO 6 45,
 ncO 45 46,
 faO 101 46 0 47,
 ldO 41 47 48,
 ⟨none, .store 41 (.tmp 4) (.tmp 48), none⟩,
 ⟨none, .store 25 (.tmp 5) (.const (.int .i64 0)), none⟩]
def sc16 : SC := (.seq (.reg sc16r0) (.seq (.reg sc16r1) (.seq (.reg sc16r2) (.seq (.reg sc16r3) (.seq (.reg sc16r4) (.seq (.reg sc16r5) .ret))))))
theorem sc16_ok : Tryz.f16.body.map tr = some sc16 := by kernel_rfl
theorem fn16 : cx.fn 16 = some Tryz.f16 := by kernel_rfl
theorem ext16 : cx.ext 16 = none := by kernel_rfl
theorem sc16_dst : okS 49 sc16 = true := by kernel_rfl
def sc54r0 : List SOp := [⟨none, .assign (.const (.bool false)), (some 4)⟩]
def sc54r1 : List SOp := [mvO 0 8,
 mvO 1 9,
 ⟨none, .call { callee := .value (.func 107), args := #[(.tmp 8), (.tmp 9)], argTypes := #[39, 3] }, (some 10)⟩,
 mvO 10 7,
 ⟨none, .extract (.tmp 7) 0, (some 11)⟩,
 ⟨none, .extract (.tmp 7) 1, (some 12)⟩,
 asO 11 5,
 asO 12 6]
def sc54r2 : List SOp := [mvO 6 13,
 asO 13 4]
def sc54 : SC := (.seq (.reg sc54r0) (.seq (.reg sc54r1) (.seq (.reg sc54r2) .ret)))
theorem ext54 : cx.ext 54 = none := by kernel_rfl
theorem ct54 : CT 54 14 sc54 [.tmp 4] := mkCT (fn := Tryz.f54) (by kernel_rfl) (by kernel_rfl) rfl rfl (by kernel_rfl)
-- (*understory/tree.work).release
def sc55r0 : List SOp := [mvO 0 4,
 ncO 4 5,
 faO 101 5 0 6,
 faO 41 6 2 7,
 ldO 39 7 8,
 mvO 1 9,
 ⟨none, .call { callee := .value (.func 54), args := #[(.tmp 8), (.tmp 9)], argTypes := #[39, 3] }, (some 10)⟩,
 ⟨none, .unOp .not 4 (.tmp 10), (some 11)⟩]
def sc55r1 : List SOp := [mvO 0 12,
 mvO 0 13,
 ncO 13 14,
 faO 101 14 0 15,
 faO 41 15 3 16,
 ldO 39 16 17,
 mvO 1 18,
 ⟨none, .call { callee := .value (.func 104), args := #[(.tmp 17), (.tmp 18)], argTypes := #[39, 3] }, (some 19)⟩,
 ncO 12 20,
 faO 101 20 0 21,
 faO 41 21 3 22,
 ⟨none, .store 39 (.tmp 22) (.tmp 19), none⟩]
def sc55r2 : List SOp := [mvO 0 23,
 mvO 0 24,
 ncO 24 25,
 faO 101 25 0 26,
 faO 41 26 2 27,
 ldO 39 27 28,
 mvO 1 29,
 ⟨none, .call { callee := .value (.func 108), args := #[(.tmp 28), (.tmp 29)], argTypes := #[39, 3] }, (some 30)⟩,
 ncO 23 31,
 faO 101 31 0 32,
 faO 41 32 2 33,
 ⟨none, .store 39 (.tmp 33) (.tmp 30), none⟩]
def sc55r3 : List SOp := [mvO 0 34,
 mvO 0 35,
 ncO 35 36,
 faO 101 36 0 37,
 faO 41 37 1 38,
 ldO 39 38 39,
 mvO 1 40,
 ⟨none, .call { callee := .value (.func 104), args := #[(.tmp 39), (.tmp 40)], argTypes := #[39, 3] }, (some 41)⟩,
 ncO 34 42,
 faO 101 42 0 43,
 faO 41 43 1 44,
 ⟨none, .store 39 (.tmp 44) (.tmp 41), none⟩]
def sc55r4 : List SOp := [mvO 0 45,
 ncO 45 46,
 faO 101 46 0 47,
 faO 41 47 0 48,
 ldO 38 48 49,
 mvO 1 50,
 ⟨none, .build 79 #[], (some 51)⟩,
 ⟨none, .indexAddr 38 (.tmp 49) (.tmp 50), (some 52)⟩,
 ⟨none, .store 79 (.tmp 52) (.tmp 51), none⟩]
def sc55 : SC := (.seq (.seq (.reg sc55r0) (.cond (.tmp 11) (.seq (.reg sc55r1) .ret) .skip)) (.seq (.reg sc55r2) (.seq (.reg sc55r3) (.reg sc55r4))))
theorem ext55 : cx.ext 55 = none := by kernel_rfl
theorem ct55 : CT 55 53 sc55 [] := mkCT (fn := Tryz.f55) (by kernel_rfl) (by kernel_rfl) rfl rfl (by kernel_rfl)
-- understory/tree.without[int]
def sc108r0 : List SOp := [⟨none, .assign (.const (.slice none 0 0)), (some 4)⟩]
def sc108r1 : List SOp := [mvO 0 8,
 mvO 1 9,
 ⟨none, .call { callee := .value (.func 107), args := #[(.tmp 8), (.tmp 9)], argTypes := #[39, 3] }, (some 10)⟩,
 mvO 10 7,
 ⟨none, .extract (.tmp 7) 0, (some 11)⟩,
 ⟨none, .extract (.tmp 7) 1, (some 12)⟩,
 asO 11 5,
 asO 12 6]
def sc108r2 : List SOp := [mvO 6 13,
 ⟨none, .unOp .not 4 (.tmp 13), (some 14)⟩]
def sc108r3 : List SOp := [mvO 0 15,
 asO 15 4]
def sc108r4 : List SOp := [mvO 0 16,
 ⟨none, .call { callee := .value (.func 103), args := #[(.tmp 16)], argTypes := #[39] }, (some 17)⟩,
 mvO 5 18,
 mvO 5 19,
 ⟨none, .binOp .add 3 (.tmp 19) (.const (.int .i64 1)) 3, (some 20)⟩,
 ⟨none, .call { callee := .value (.func 147), args := #[(.tmp 17), (.tmp 18), (.tmp 20)], argTypes := #[39, 3, 3] }, (some 21)⟩,
 asO 21 4]
def sc108 : SC := (.seq (.reg sc108r0) (.seq (.reg sc108r1) (.seq (.seq (.reg sc108r2) (.cond (.tmp 14) (.seq (.reg sc108r3) .ret) .skip)) (.seq (.reg sc108r4) .ret))))
theorem ext108 : cx.ext 108 = none := by kernel_rfl
theorem ct108 : CT 108 22 sc108 [.tmp 4] := mkCT (fn := Tryz.f108) (by kernel_rfl) (by kernel_rfl) rfl rfl (by kernel_rfl)
-- slices.Delete[[]int,int]
def sc147r0 : List SOp := [⟨none, .assign (.const (.slice none 0 0)), (some 6)⟩]
def sc147r1 : List SOp := [mvO 0 8,
 mvO 1 9,
 mvO 2 10,
 mvO 0 11,
 ⟨none, .call { callee := .builtin .len, args := #[(.tmp 11)], argTypes := #[39] }, (some 12)⟩,
 ⟨none, .slice 39 (.tmp 8) (some (.tmp 9)) (some (.tmp 10)) (some (.tmp 12)), (some 13)⟩]
def sc147r2 : List SOp := [mvO 1 14,
 mvO 2 15,
 ⟨none, .binOp .eql 3 (.tmp 14) (.tmp 15) 3, (some 16)⟩]
def sc147r3 : List SOp := [mvO 0 17,
 asO 17 6]
def sc147r4 : List SOp := [mvO 0 18,
 ⟨none, .call { callee := .builtin .len, args := #[(.tmp 18)], argTypes := #[39] }, (some 19)⟩,
 asO 19 7]
def sc147r5 : List (SOp × DK) := [(⟨none, .move (.tmp 0), (some 20)⟩, .L 0 0 []),
 (⟨none, .move (.tmp 1), (some 21)⟩, .L 0 0 []),
 (⟨none, .slice 39 (.tmp 20) none (some (.tmp 21)) none, (some 22)⟩, .L 0 0 []),
 (⟨none, .move (.tmp 0), (some 23)⟩, .L 0 0 []),
 (⟨none, .move (.tmp 2), (some 24)⟩, .L 0 0 []),
 (⟨none, .slice 39 (.tmp 23) (some (.tmp 24)) none none, (some 25)⟩, .L 0 0 []),
 (⟨none, .call { callee := .builtin .append, args := #[(.tmp 22), (.tmp 25)], argTypes := #[39, 39] }, (some 26)⟩, .A [20, 21, 22, 23, 24, 25, 26] []),
 (⟨none, .assign (.tmp 26), (some 0)⟩, .L 1 1 [])]
def sc147d5 : SC := .draw sc147r5
theorem sc147d5_x {o rd Q t h d r} : xC cx o rd sc147d5 Q t h d r = xDraw cx o rd Q sc147r5 0 [h] [] [] t h d r := xC_draw (by kernel_rfl)
def sc147r6 : List SOp := [mvO 0 27,
 mvO 0 28,
 ⟨none, .call { callee := .builtin .len, args := #[(.tmp 28)], argTypes := #[39] }, (some 29)⟩,
 mvO 7 30,
 ⟨none, .slice 39 (.tmp 27) (some (.tmp 29)) (some (.tmp 30)) none, (some 31)⟩,
 ⟨none, .call { callee := .builtin .clear, args := #[(.tmp 31)], argTypes := #[39] }, none⟩]
def sc147r7 : List SOp := [mvO 0 32,
 asO 32 6]
def sc147 : SC := (.seq (.reg sc147r0) (.seq (.reg sc147r1) (.seq (.seq (.reg sc147r2) (.cond (.tmp 16) (.seq (.reg sc147r3) .ret) .skip)) (.seq (.reg sc147r4) (.seq sc147d5 (.seq (.reg sc147r6) (.seq (.reg sc147r7) .ret)))))))
theorem ext147 : cx.ext 147 = none := by kernel_rfl
theorem ct147 : CT 147 33 sc147 [.tmp 6] := mkCT (fn := Tryz.f147) (by kernel_rfl) (by kernel_rfl) rfl rfl (by kernel_rfl)
-- understory/understoryref07.Alloc
def sc15r0 : List SOp := [⟨none, .box 41 (.tmp 0), (some 1)⟩,
 ⟨none, .alloc 52, (some 2)⟩]
def sc15r1 : List SOp := [ldO 41 1 5,
 ⟨none, .call { callee := .value (.func 50), args := #[(.tmp 5)], argTypes := #[41] }, (some 6)⟩,
 asO 6 3]
def sc15r2 : List SOp := [mvO 3 7,
 ⟨none, .call { callee := .value (.func 51), args := #[(.tmp 7)], argTypes := #[102] }, (some 8)⟩,
 asO 8 4]
def sc15r3 : List SOp := [mvO 3 9,
 ⟨none, .build 48 #[], (some 10)⟩,
 ⟨none, .build 50 #[], (some 11)⟩,
 mvO 4 12,
 ⟨none, .call { callee := .value (.func 52), args := #[(.tmp 9), (.tmp 10), (.tmp 11), (.tmp 12)], argTypes := #[102, 48, 50, 3] }, (some 13)⟩,
 ⟨none, .store 52 (.tmp 2) (.tmp 13), none⟩]
def sc15 : SC := (.seq (.reg sc15r0) (.seq (.reg sc15r1) (.seq (.reg sc15r2) (.seq (.reg sc15r3) .ret))))
theorem ext15 : cx.ext 15 = none := by kernel_rfl
theorem ct15 : CT 15 14 sc15 [.cell 2 52] := mkCT (fn := Tryz.f15) (by kernel_rfl) (by kernel_rfl) rfl rfl (by kernel_rfl)
-- understory/understoryref07.opened
def sc50r0 : List SOp := [⟨none, .box 41 (.tmp 0), (some 1)⟩,
 ⟨none, .assign (.const (.pointer none)), (some 2)⟩]
def sc50r1 : List SOp := [ldO 41 1 4,
 ⟨none, .build 136 #[(0, (.tmp 4))], (some 5)⟩,
 ⟨none, .box 136 (.tmp 5), (some 6)⟩,
 asO 6 3]
def sc50r2 : List SOp := [mvO 3 7,
 ldO 41 1 8,
 ⟨none, .call { callee := .value (.func 59), args := #[(.tmp 8)], argTypes := #[41] }, (some 9)⟩,
 ⟨none, .call { callee := .value (.func 56), args := #[(.tmp 7), (.tmp 9), (.const (.int .i64 2))], argTypes := #[102, 4, 25] }, (some 10)⟩]
def sc50r3 : List SOp := [mvO 3 11,
 ⟨none, .buildSlice 38 0 #[], (some 12)⟩,
 faO 41 1 0 13,
 ldO 38 13 14,
 ⟨none, .call { callee := .builtin .append, args := #[(.tmp 12), (.tmp 14)], argTypes := #[38, 38] }, (some 15)⟩,
 ncO 11 16,
 faO 136 16 0 17,
 faO 41 17 0 18,
 ⟨none, .store 38 (.tmp 18) (.tmp 15), none⟩]
def sc50r4 : List SOp := [mvO 3 19,
 asO 19 2]
def sc50 : SC := (.seq (.reg sc50r0) (.seq (.reg sc50r1) (.seq (.seq (.reg sc50r2) (.cond (.tmp 10) (.reg sc50r3) .skip)) (.seq (.reg sc50r4) .ret))))
theorem ext50 : cx.ext 50 = none := by kernel_rfl
theorem ct50 : CT 50 20 sc50 [.tmp 2] := mkCT (fn := Tryz.f50) (by kernel_rfl) (by kernel_rfl) rfl rfl (by kernel_rfl)
-- (*understory/understoryref07.Work).need
def sc56r0 : List SOp := [⟨none, .assign (.const (.bool false)), (some 6)⟩]
def sc56r1 : List SOp := [mvO 1 7,
 ⟨none, .unOp .not 4 (.tmp 7), (some 8)⟩]
def sc56r2 : List SOp := [mvO 0 9,
 mvO 2 10,
 ⟨none, .call { callee := .value (.func 109), args := #[(.tmp 9), (.tmp 10)], argTypes := #[102, 25] }, (some 11)⟩]
def sc56r3 : List SOp := [mvO 0 12,
 ncO 12 13,
 faO 136 13 1 14,
 ldO 25 14 15,
 ⟨none, .binOp .eql 25 (.tmp 15) (.const (.int .i64 0)) 25, (some 16)⟩,
 asO 16 6]
def sc56 : SC := (.seq (.reg sc56r0) (.seq (.seq (.reg sc56r1) (.cond (.tmp 8) (.reg sc56r2) .skip)) (.seq (.reg sc56r3) .ret)))
theorem ext56 : cx.ext 56 = none := by kernel_rfl
theorem ct56 : CT 56 17 sc56 [.tmp 6] := mkCT (fn := Tryz.f56) (by kernel_rfl) (by kernel_rfl) rfl rfl (by kernel_rfl)
-- (*understory/understoryref07.Work).fail
def sc109r0 : List SOp := [mvO 0 4,
 ncO 4 5,
 faO 136 5 1 6,
 ldO 25 6 7,
 ⟨none, .binOp .eql 25 (.tmp 7) (.const (.int .i64 0)) 25, (some 8)⟩]
def sc109r1 : List SOp := [mvO 0 9,
 mvO 1 10,
 ncO 9 11,
 faO 136 11 1 12,
 ⟨none, .store 25 (.tmp 12) (.tmp 10), none⟩]
def sc109 : SC := (.seq (.reg sc109r0) (.cond (.tmp 8) (.reg sc109r1) .skip))
theorem ext109 : cx.ext 109 = none := by kernel_rfl
theorem ct109 : CT 109 13 sc109 [] := mkCT (fn := Tryz.f109) (by kernel_rfl) (by kernel_rfl) rfl rfl (by kernel_rfl)
-- (*understory/understoryref07.Work).take
def sc51r0 : List SOp := [⟨none, .assign (.const (.int .i64 0)), (some 2)⟩]
def sc51r1 : List SOp := [mvO 0 5,
 ncO 5 6,
 faO 136 6 1 7,
 ldO 25 7 8,
 ⟨none, .binOp .neq 25 (.tmp 8) (.const (.int .i64 0)) 25, (some 9)⟩]
def sc51r2 : List SOp := [⟨none, .assign (.const (.int .i64 0)), (some 2)⟩]
def sc51r3 : List SOp := [mvO 0 10,
 ncO 10 11,
 faO 136 11 0 12,
 faO 41 12 1 13,
 ldO 39 13 14,
 ⟨none, .call { callee := .builtin .len, args := #[(.tmp 14)], argTypes := #[39] }, (some 15)⟩,
 ⟨none, .binOp .gtr 3 (.tmp 15) (.const (.int .i64 0)) 3, (some 16)⟩]
def sc51r4 : List SOp := [mvO 0 17,
 ncO 17 18,
 faO 136 18 0 19,
 faO 41 19 1 20,
 ldO 39 20 21,
 ⟨none, .indexAddr 39 (.tmp 21) (.const (.int .i64 0)), (some 22)⟩,
 ldO 3 22 23,
 asO 23 3]
def sc51r5 : List SOp := [mvO 0 24,
 mvO 0 25,
 ncO 25 26,
 faO 136 26 0 27,
 faO 41 27 1 28,
 ldO 39 28 29,
 mvO 3 30,
 ⟨none, .call { callee := .value (.func 105), args := #[(.tmp 29), (.tmp 30)], argTypes := #[39, 3] }, (some 31)⟩,
 ncO 24 32,
 faO 136 32 0 33,
 faO 41 33 1 34,
 ⟨none, .store 39 (.tmp 34) (.tmp 31), none⟩]
def sc51r6 : List SOp := [mvO 0 35,
 mvO 0 36,
 ncO 36 37,
 faO 136 37 0 38,
 faO 41 38 2 39,
 ldO 39 39 40,
 mvO 3 41,
 ⟨none, .call { callee := .value (.func 106), args := #[(.tmp 40), (.tmp 41)], argTypes := #[39, 3] }, (some 42)⟩,
 ncO 35 43,
 faO 136 43 0 44,
 faO 41 44 2 45,
 ⟨none, .store 39 (.tmp 45) (.tmp 42), none⟩]
def sc51r7 : List SOp := [mvO 3 46,
 asO 46 2]
def sc51r8 : List SOp := [mvO 0 47,
 ncO 47 48,
 faO 136 48 0 49,
 faO 41 49 0 50,
 ldO 38 50 51,
 ⟨none, .call { callee := .builtin .len, args := #[(.tmp 51)], argTypes := #[38] }, (some 52)⟩,
 asO 52 4]
def sc51r9 : List SOp := [mvO 0 53,
 mvO 4 54,
 ⟨none, .binOp .lss 3 (.tmp 54) (.const (.int .i64 4096)) 3, (some 55)⟩,
 ⟨none, .call { callee := .value (.func 56), args := #[(.tmp 53), (.tmp 55), (.const (.int .i64 7))], argTypes := #[102, 4, 25] }, (some 56)⟩,
 ⟨none, .unOp .not 4 (.tmp 56), (some 57)⟩]
def sc51r10 : List SOp := [⟨none, .assign (.const (.int .i64 0)), (some 2)⟩]
def sc51r11 : List SOp := [mvO 0 58,
 mvO 0 59,
 ncO 59 60,
 faO 136 60 0 61,
 faO 41 61 0 62,
 ldO 38 62 63,
 ⟨none, .build 79 #[], (some 64)⟩,
 ⟨none, .buildSlice 38 1 #[(0, (.tmp 64))], (some 65)⟩,
 ⟨none, .call { callee := .builtin .append, args := #[(.tmp 63), (.tmp 65)], argTypes := #[38, 38] }, (some 66)⟩,
 ncO 58 67,
 faO 136 67 0 68,
 faO 41 68 0 69,
 ⟨none, .store 38 (.tmp 69) (.tmp 66), none⟩]
def sc51r12 : List SOp := [mvO 0 70,
 mvO 0 71,
 ncO 71 72,
 faO 136 72 0 73,
 faO 41 73 2 74,
 ldO 39 74 75,
 mvO 4 76,
 ⟨none, .call { callee := .value (.func 106), args := #[(.tmp 75), (.tmp 76)], argTypes := #[39, 3] }, (some 77)⟩,
 ncO 70 78,
 faO 136 78 0 79,
 faO 41 79 2 80,
 ⟨none, .store 39 (.tmp 80) (.tmp 77), none⟩]
def sc51r13 : List SOp := [mvO 4 81,
 asO 81 2]
def sc51 : SC := (.seq (.reg sc51r0) (.seq (.seq (.reg sc51r1) (.cond (.tmp 9) (.seq (.reg sc51r2) .ret) .skip)) (.seq (.seq (.reg sc51r3) (.cond (.tmp 16) (.seq (.reg sc51r4) (.seq (.reg sc51r5) (.seq (.reg sc51r6) (.seq (.reg sc51r7) .ret)))) .skip)) (.seq (.reg sc51r8) (.seq (.seq (.reg sc51r9) (.cond (.tmp 57) (.seq (.reg sc51r10) .ret) .skip)) (.seq (.reg sc51r11) (.seq (.reg sc51r12) (.seq (.reg sc51r13) .ret))))))))
theorem ext51 : cx.ext 51 = none := by kernel_rfl
theorem ct51 : CT 51 82 sc51 [.tmp 2] := mkCT (fn := Tryz.f51) (by kernel_rfl) (by kernel_rfl) rfl rfl (by kernel_rfl)
-- understory/understoryref07.without
def sc105r0 : List SOp := [⟨none, .assign (.const (.slice none 0 0)), (some 4)⟩]
def sc105r1 : List SOp := [⟨none, .assign (.const (.slice none 0 0)), (some 5)⟩]
def sc105r2 : List SOp := [⟨none, .assign (.const (.int .i64 0)), (some 6)⟩]
def sc105r3 : List SOp := [mvO 6 7,
 mvO 0 8,
 ⟨none, .call { callee := .builtin .len, args := #[(.tmp 8)], argTypes := #[39] }, (some 9)⟩,
 ⟨none, .binOp .lss 3 (.tmp 7) (.tmp 9) 3, (some 10)⟩]
def sc105r4 : List SOp := [mvO 0 13,
 mvO 6 14,
 ⟨none, .indexAddr 39 (.tmp 13) (.tmp 14), (some 15)⟩,
 ldO 3 15 16,
 mvO 1 17,
 ⟨none, .binOp .neq 3 (.tmp 16) (.tmp 17) 3, (some 18)⟩]
def sc105r5 : List SOp := [mvO 5 19,
 mvO 0 20,
 mvO 6 21,
 ⟨none, .indexAddr 39 (.tmp 20) (.tmp 21), (some 22)⟩,
 ldO 3 22 23,
 ⟨none, .buildSlice 39 1 #[(0, (.tmp 23))], (some 24)⟩,
 ⟨none, .call { callee := .builtin .append, args := #[(.tmp 19), (.tmp 24)], argTypes := #[39, 39] }, (some 25)⟩,
 asO 25 5]
def sc105r6 : List SOp := [mvO 6 11,
 ⟨none, .binOp .add 3 (.tmp 11) (.const (.int .i64 1)) 3, (some 12)⟩,
 asO 12 6]
def sc105l7 : SC := (.seq (.seq (.reg sc105r3) (.cond (.tmp 10) .skip (.exit 0))) (.seq (.block 1 (.seq (.reg sc105r4) (.cond (.tmp 18) (.reg sc105r5) .skip))) (.reg sc105r6)))
def sc105r8 : List SOp := [mvO 5 26,
 asO 26 4]
def sc105 : SC := (.seq (.reg sc105r0) (.seq (.reg sc105r1) (.seq (.seq (.reg sc105r2) (.block 0 (.loop sc105l7))) (.seq (.reg sc105r8) .ret))))
theorem ext105 : cx.ext 105 = none := by kernel_rfl
theorem ct105 : CT 105 27 sc105 [.tmp 4] := mkCT (fn := Tryz.f105) (by kernel_rfl) (by kernel_rfl) rfl rfl (by kernel_rfl)
-- understory/understoryref07.with
def sc106r0 : List SOp := [⟨none, .assign (.const (.slice none 0 0)), (some 4)⟩]
def sc106r1 : List SOp := [⟨none, .assign (.const (.slice none 0 0)), (some 5)⟩]
def sc106r2 : List SOp := [⟨none, .assign (.const (.bool false)), (some 6)⟩]
def sc106r3 : List SOp := [⟨none, .assign (.const (.int .i64 0)), (some 7)⟩]
def sc106r4 : List SOp := [mvO 7 8,
 mvO 0 9,
 ⟨none, .call { callee := .builtin .len, args := #[(.tmp 9)], argTypes := #[39] }, (some 10)⟩,
 ⟨none, .binOp .lss 3 (.tmp 8) (.tmp 10) 3, (some 11)⟩]
def sc106r5 : List SOp := [mvO 6 14,
 ⟨none, .unOp .not 4 (.tmp 14), (some 15)⟩,
 mvO 15 16,
 ⟨(some (some 16, true)), .move (.tmp 0), (some 17)⟩,
 ⟨(some (some 16, true)), .move (.tmp 7), (some 18)⟩,
 ⟨(some (some 16, true)), .indexAddr 39 (.tmp 17) (.tmp 18), (some 19)⟩,
 ⟨(some (some 16, true)), .load 3 (.tmp 19), (some 20)⟩,
 ⟨(some (some 16, true)), .move (.tmp 1), (some 21)⟩,
 ⟨(some (some 16, true)), .binOp .geq 3 (.tmp 20) (.tmp 21) 3, (some 22)⟩,
 ⟨none, .pick (.tmp 16) (.tmp 22) (.const (.bool false)), (some 23)⟩]
def sc106r6 : List SOp := [⟨none, .assign (.const (.bool true)), (some 6)⟩]
def sc106r7 : List SOp := [mvO 0 24,
 mvO 7 25,
 ⟨none, .indexAddr 39 (.tmp 24) (.tmp 25), (some 26)⟩,
 ldO 3 26 27,
 mvO 1 28,
 ⟨none, .binOp .neq 3 (.tmp 27) (.tmp 28) 3, (some 29)⟩]
def sc106r8 : List SOp := [mvO 5 30,
 mvO 1 31,
 ⟨none, .buildSlice 39 1 #[(0, (.tmp 31))], (some 32)⟩,
 ⟨none, .call { callee := .builtin .append, args := #[(.tmp 30), (.tmp 32)], argTypes := #[39, 39] }, (some 33)⟩,
 asO 33 5]
def sc106r9 : List SOp := [mvO 5 34,
 mvO 0 35,
 mvO 7 36,
 ⟨none, .indexAddr 39 (.tmp 35) (.tmp 36), (some 37)⟩,
 ldO 3 37 38,
 ⟨none, .buildSlice 39 1 #[(0, (.tmp 38))], (some 39)⟩,
 ⟨none, .call { callee := .builtin .append, args := #[(.tmp 34), (.tmp 39)], argTypes := #[39, 39] }, (some 40)⟩,
 asO 40 5]
def sc106r10 : List SOp := [mvO 7 12,
 ⟨none, .binOp .add 3 (.tmp 12) (.const (.int .i64 1)) 3, (some 13)⟩,
 asO 13 7]
def sc106l11 : SC := (.seq (.seq (.reg sc106r4) (.cond (.tmp 11) .skip (.exit 0))) (.seq (.block 1 (.seq (.seq (.reg sc106r5) (.cond (.tmp 23) (.seq (.reg sc106r6) (.seq (.reg sc106r7) (.cond (.tmp 29) (.reg sc106r8) .skip))) .skip)) (.reg sc106r9))) (.reg sc106r10)))
def sc106r12 : List SOp := [mvO 6 41,
 ⟨none, .unOp .not 4 (.tmp 41), (some 42)⟩]
def sc106r13 : List SOp := [mvO 5 43,
 mvO 1 44,
 ⟨none, .buildSlice 39 1 #[(0, (.tmp 44))], (some 45)⟩,
 ⟨none, .call { callee := .builtin .append, args := #[(.tmp 43), (.tmp 45)], argTypes := #[39, 39] }, (some 46)⟩,
 asO 46 5]
def sc106r14 : List SOp := [mvO 5 47,
 asO 47 4]
def sc106 : SC := (.seq (.reg sc106r0) (.seq (.reg sc106r1) (.seq (.reg sc106r2) (.seq (.seq (.reg sc106r3) (.block 0 (.loop sc106l11))) (.seq (.seq (.reg sc106r12) (.cond (.tmp 42) (.reg sc106r13) .skip)) (.seq (.reg sc106r14) .ret))))))
theorem ext106 : cx.ext 106 = none := by kernel_rfl
theorem ct106 : CT 106 48 sc106 [.tmp 4] := mkCT (fn := Tryz.f106) (by kernel_rfl) (by kernel_rfl) rfl rfl (by kernel_rfl)
-- (*understory/understoryref07.Work).told
def sc52r0 : List SOp := [⟨none, .box 48 (.tmp 1), (some 5)⟩,
 ⟨none, .box 50 (.tmp 2), (some 6)⟩,
 ⟨none, .alloc 52, (some 8)⟩]
def sc52r1 : List SOp := [mvO 0 9,
 ncO 9 10,
 faO 136 10 1 11,
 ldO 25 11 12,
 ⟨none, .binOp .neq 25 (.tmp 12) (.const (.int .i64 0)) 25, (some 13)⟩]
def sc52r2 : List SOp := [mvO 0 14,
 ncO 14 15,
 faO 136 15 1 16,
 ldO 25 16 17,
 ⟨none, .build 52 #[(4, (.tmp 17))], (some 18)⟩,
 ⟨none, .store 52 (.tmp 8) (.tmp 18), none⟩]
def sc52r3 : List (SOp × DK) := [(⟨none, .move (.tmp 0), (some 19)⟩, .L 0 0 []),
 (⟨none, .nilCheck (.tmp 19), (some 20)⟩, .L 0 0 []),
 (⟨none, .fieldAddr 136 (.tmp 20) 0, (some 21)⟩, .L 0 0 []),
 (⟨none, .load 41 (.tmp 21), (some 22)⟩, .L 0 0 []),
 (⟨none, .load 48 (.tmp 5), (some 23)⟩, .L 0 0 []),
 (⟨none, .load 50 (.tmp 6), (some 24)⟩, .L 0 0 []),
 (⟨none, .move (.tmp 3), (some 25)⟩, .L 0 0 []),
 (⟨none, .build 52 #[(0, (.tmp 22)), (1, (.tmp 23)), (2, (.tmp 24)), (3, (.tmp 25))], (some 26)⟩, .L 0 0 []),
 (⟨none, .store 52 (.tmp 8) (.tmp 26), none⟩, .A [19, 20, 21, 22, 23, 24, 25, 26] [])]
def sc52d3 : SC := .draw sc52r3
theorem sc52d3_x {o rd Q t h d r} : xC cx o rd sc52d3 Q t h d r = xDraw cx o rd Q sc52r3 0 [h] [] [] t h d r := xC_draw (by kernel_rfl)
def sc52 : SC := (.seq (.reg sc52r0) (.seq (.seq (.reg sc52r1) (.cond (.tmp 13) (.seq (.reg sc52r2) .ret) .skip)) (.seq sc52d3 .ret)))
theorem ext52 : cx.ext 52 = none := by kernel_rfl
theorem ct52 : CT 52 27 sc52 [.cell 8 52] := mkCT (fn := Tryz.f52) (by kernel_rfl) (by kernel_rfl) rfl rfl (by kernel_rfl)
-- understory/understoryref07.Release
def sc17r0 : List SOp := [⟨none, .box 41 (.tmp 0), (some 2)⟩,
 ⟨none, .alloc 52, (some 4)⟩]
def sc17r1 : List SOp := [ldO 41 2 6,
 ⟨none, .call { callee := .value (.func 50), args := #[(.tmp 6)], argTypes := #[41] }, (some 7)⟩,
 asO 7 5]
def sc17r2 : List SOp := [mvO 5 8,
 mvO 1 9,
 ⟨none, .binOp .geq 3 (.tmp 9) (.const (.int .i64 2)) 3, (some 10)⟩,
 mvO 10 11,
 ⟨(some (some 11, true)), .move (.tmp 1), (some 12)⟩,
 ⟨(some (some 11, true)), .fieldAddr 41 (.tmp 2) 0, (some 13)⟩,
 ⟨(some (some 11, true)), .load 38 (.tmp 13), (some 14)⟩,
 ⟨(some (some 11, true)), .call { callee := .builtin .len, args := #[(.tmp 14)], argTypes := #[38] }, (some 15)⟩,
 ⟨(some (some 11, true)), .binOp .lss 3 (.tmp 12) (.tmp 15) 3, (some 16)⟩,
 ⟨none, .pick (.tmp 11) (.tmp 16) (.const (.bool false)), (some 17)⟩,
 mvO 17 18,
 ⟨(some (some 18, true)), .fieldAddr 41 (.tmp 2) 1, (some 19)⟩,
 ⟨(some (some 18, true)), .load 39 (.tmp 19), (some 20)⟩,
 ⟨(some (some 18, true)), .move (.tmp 1), (some 21)⟩,
 ⟨(some (some 18, true)), .call { callee := .value (.func 57), args := #[(.tmp 20), (.tmp 21)], argTypes := #[39, 3] }, (some 22)⟩,
 ⟨(some (some 18, true)), .unOp .not 4 (.tmp 22), (some 23)⟩,
 ⟨none, .pick (.tmp 18) (.tmp 23) (.const (.bool false)), (some 24)⟩,
 mvO 24 25,
 ⟨(some (some 25, true)), .fieldAddr 41 (.tmp 2) 3, (some 26)⟩,
 ⟨(some (some 25, true)), .load 39 (.tmp 26), (some 27)⟩,
 ⟨(some (some 25, true)), .move (.tmp 1), (some 28)⟩,
 ⟨(some (some 25, true)), .call { callee := .value (.func 57), args := #[(.tmp 27), (.tmp 28)], argTypes := #[39, 3] }, (some 29)⟩,
 ⟨(some (some 25, true)), .unOp .not 4 (.tmp 29), (some 30)⟩,
 ⟨none, .pick (.tmp 25) (.tmp 30) (.const (.bool false)), (some 31)⟩,
 ⟨none, .call { callee := .value (.func 56), args := #[(.tmp 8), (.tmp 31), (.const (.int .i64 1))], argTypes := #[102, 4, 25] }, (some 32)⟩]
def sc17r3 : List SOp := [mvO 5 33,
 mvO 1 34,
 ⟨none, .call { callee := .value (.func 58), args := #[(.tmp 33), (.tmp 34)], argTypes := #[102, 3] }, (some 35)⟩]
def sc17r4 : List SOp := [mvO 5 36,
 ⟨none, .build 48 #[], (some 37)⟩,
 ⟨none, .build 50 #[], (some 38)⟩,
 ⟨none, .call { callee := .value (.func 52), args := #[(.tmp 36), (.tmp 37), (.tmp 38), (.const (.int .i64 0))], argTypes := #[102, 48, 50, 3] }, (some 39)⟩,
 ⟨none, .store 52 (.tmp 4) (.tmp 39), none⟩]
def sc17 : SC := (.seq (.reg sc17r0) (.seq (.reg sc17r1) (.seq (.reg sc17r2) (.seq (.reg sc17r3) (.seq (.reg sc17r4) .ret)))))
theorem ext17 : cx.ext 17 = none := by kernel_rfl
theorem ct17 : CT 17 40 sc17 [.cell 4 52] := mkCT (fn := Tryz.f17) (by kernel_rfl) (by kernel_rfl) rfl rfl (by kernel_rfl)
-- understory/understoryref07.has
def sc57r0 : List SOp := [⟨none, .assign (.const (.bool false)), (some 4)⟩]
def sc57r1 : List SOp := [⟨none, .assign (.const (.int .i64 0)), (some 5)⟩]
def sc57r2 : List SOp := [mvO 5 6,
 mvO 0 7,
 ⟨none, .call { callee := .builtin .len, args := #[(.tmp 7)], argTypes := #[39] }, (some 8)⟩,
 ⟨none, .binOp .lss 3 (.tmp 6) (.tmp 8) 3, (some 9)⟩]
def sc57r3 : List SOp := [mvO 0 12,
 mvO 5 13,
 ⟨none, .indexAddr 39 (.tmp 12) (.tmp 13), (some 14)⟩,
 ldO 3 14 15,
 mvO 1 16,
 ⟨none, .binOp .eql 3 (.tmp 15) (.tmp 16) 3, (some 17)⟩]
def sc57r4 : List SOp := [⟨none, .assign (.const (.bool true)), (some 4)⟩]
def sc57r5 : List SOp := [mvO 5 10,
 ⟨none, .binOp .add 3 (.tmp 10) (.const (.int .i64 1)) 3, (some 11)⟩,
 asO 11 5]
def sc57l6 : SC := (.seq (.seq (.reg sc57r2) (.cond (.tmp 9) .skip (.exit 0))) (.seq (.block 1 (.seq (.reg sc57r3) (.cond (.tmp 17) (.seq (.reg sc57r4) .ret) .skip))) (.reg sc57r5)))
def sc57r7 : List SOp := [⟨none, .assign (.const (.bool false)), (some 4)⟩]
def sc57 : SC := (.seq (.reg sc57r0) (.seq (.seq (.reg sc57r1) (.block 0 (.loop sc57l6))) (.seq (.reg sc57r7) .ret)))
theorem ext57 : cx.ext 57 = none := by kernel_rfl
theorem ct57 : CT 57 18 sc57 [.tmp 4] := mkCT (fn := Tryz.f57) (by kernel_rfl) (by kernel_rfl) rfl rfl (by kernel_rfl)
-- (*understory/understoryref07.Work).release
def sc58r0 : List SOp := [mvO 0 4,
 ncO 4 5,
 faO 136 5 1 6,
 ldO 25 6 7,
 ⟨none, .binOp .neq 25 (.tmp 7) (.const (.int .i64 0)) 25, (some 8)⟩]
def sc58r1 : List SOp := [mvO 0 9,
 ncO 9 10,
 faO 136 10 0 11,
 faO 41 11 2 12,
 ldO 39 12 13,
 mvO 1 14,
 ⟨none, .call { callee := .value (.func 57), args := #[(.tmp 13), (.tmp 14)], argTypes := #[39, 3] }, (some 15)⟩,
 ⟨none, .unOp .not 4 (.tmp 15), (some 16)⟩]
def sc58r2 : List SOp := [mvO 0 17,
 mvO 0 18,
 ncO 18 19,
 faO 136 19 0 20,
 faO 41 20 3 21,
 ldO 39 21 22,
 mvO 1 23,
 ⟨none, .call { callee := .value (.func 106), args := #[(.tmp 22), (.tmp 23)], argTypes := #[39, 3] }, (some 24)⟩,
 ncO 17 25,
 faO 136 25 0 26,
 faO 41 26 3 27,
 ⟨none, .store 39 (.tmp 27) (.tmp 24), none⟩]
def sc58r3 : List SOp := [mvO 0 28,
 mvO 0 29,
 ncO 29 30,
 faO 136 30 0 31,
 faO 41 31 2 32,
 ldO 39 32 33,
 mvO 1 34,
 ⟨none, .call { callee := .value (.func 105), args := #[(.tmp 33), (.tmp 34)], argTypes := #[39, 3] }, (some 35)⟩,
 ncO 28 36,
 faO 136 36 0 37,
 faO 41 37 2 38,
 ⟨none, .store 39 (.tmp 38) (.tmp 35), none⟩]
def sc58r4 : List SOp := [mvO 0 39,
 mvO 0 40,
 ncO 40 41,
 faO 136 41 0 42,
 faO 41 42 1 43,
 ldO 39 43 44,
 mvO 1 45,
 ⟨none, .call { callee := .value (.func 106), args := #[(.tmp 44), (.tmp 45)], argTypes := #[39, 3] }, (some 46)⟩,
 ncO 39 47,
 faO 136 47 0 48,
 faO 41 48 1 49,
 ⟨none, .store 39 (.tmp 49) (.tmp 46), none⟩]
def sc58r5 : List SOp := [mvO 0 50,
 ncO 50 51,
 faO 136 51 0 52,
 faO 41 52 0 53,
 ldO 38 53 54,
 mvO 1 55,
 ⟨none, .build 79 #[], (some 56)⟩,
 ⟨none, .indexAddr 38 (.tmp 54) (.tmp 55), (some 57)⟩,
 ⟨none, .store 79 (.tmp 57) (.tmp 56), none⟩]
def sc58 : SC := (.seq (.seq (.reg sc58r0) (.cond (.tmp 8) .ret .skip)) (.seq (.seq (.reg sc58r1) (.cond (.tmp 16) (.seq (.reg sc58r2) .ret) .skip)) (.seq (.reg sc58r3) (.seq (.reg sc58r4) (.reg sc58r5)))))
theorem ext58 : cx.ext 58 = none := by kernel_rfl
theorem ct58 : CT 58 58 sc58 [] := mkCT (fn := Tryz.f58) (by kernel_rfl) (by kernel_rfl) rfl rfl (by kernel_rfl)
-- understory/understoryref07.Sound
def sc19r0 : List SOp := [⟨none, .box 41 (.tmp 0), (some 1)⟩,
 ⟨none, .assign (.const (.int .i64 0)), (some 2)⟩]
def sc19r1 : List SOp := [ldO 41 1 3,
 ⟨none, .call { callee := .value (.func 59), args := #[(.tmp 3)], argTypes := #[41] }, (some 4)⟩,
 ⟨none, .unOp .not 4 (.tmp 4), (some 5)⟩]
def sc19r2 : List SOp := [⟨none, .assign (.const (.int .i64 2)), (some 2)⟩]
def sc19r3 : List SOp := [⟨none, .assign (.const (.int .i64 0)), (some 2)⟩]
def sc19 : SC := (.seq (.reg sc19r0) (.seq (.seq (.reg sc19r1) (.cond (.tmp 5) (.seq (.reg sc19r2) .ret) .skip)) (.seq (.reg sc19r3) .ret)))
theorem ext19 : cx.ext 19 = none := by kernel_rfl
theorem ct19 : CT 19 6 sc19 [.tmp 2] := mkCT (fn := Tryz.f19) (by kernel_rfl) (by kernel_rfl) rfl rfl (by kernel_rfl)
-- understory/understoryref07.IsSound
def sc59r0 : List SOp := [⟨none, .box 41 (.tmp 0), (some 1)⟩,
 ⟨none, .assign (.const (.bool false)), (some 2)⟩]
def sc59r1 : List SOp := [faO 41 1 0 7,
 ldO 38 7 8,
 ⟨none, .call { callee := .builtin .len, args := #[(.tmp 8)], argTypes := #[38] }, (some 9)⟩,
 asO 9 3]
def sc59r2 : List SOp := [mvO 3 10,
 ⟨none, .binOp .lss 3 (.tmp 10) (.const (.int .i64 2)) 3, (some 11)⟩,
 mvO 11 12,
 ⟨(some (some 12, false)), .move (.tmp 3), (some 13)⟩,
 ⟨(some (some 12, false)), .binOp .gtr 3 (.tmp 13) (.const (.int .i64 4096)) 3, (some 14)⟩,
 ⟨none, .pick (.tmp 12) (.const (.bool true)) (.tmp 14), (some 15)⟩,
 mvO 15 16,
 ⟨(some (some 16, false)), .fieldAddr 41 (.tmp 1) 4, (some 17)⟩,
 ⟨(some (some 16, false)), .load 3 (.tmp 17), (some 18)⟩,
 ⟨(some (some 16, false)), .binOp .lss 3 (.tmp 18) (.const (.int .i64 0)) 3, (some 19)⟩,
 ⟨none, .pick (.tmp 16) (.const (.bool true)) (.tmp 19), (some 20)⟩,
 mvO 20 21,
 ⟨(some (some 21, false)), .fieldAddr 41 (.tmp 1) 4, (some 22)⟩,
 ⟨(some (some 21, false)), .load 3 (.tmp 22), (some 23)⟩,
 ⟨(some (some 21, false)), .binOp .gtr 3 (.tmp 23) (.const (.int .i64 1099511627776)) 3, (some 24)⟩,
 ⟨none, .pick (.tmp 21) (.const (.bool true)) (.tmp 24), (some 25)⟩,
 mvO 25 26,
 ⟨(some (some 26, false)), .fieldAddr 41 (.tmp 1) 5, (some 27)⟩,
 ⟨(some (some 26, false)), .load 3 (.tmp 27), (some 28)⟩,
 ⟨(some (some 26, false)), .binOp .lss 3 (.tmp 28) (.const (.int .i64 0)) 3, (some 29)⟩,
 ⟨none, .pick (.tmp 26) (.const (.bool true)) (.tmp 29), (some 30)⟩,
 mvO 30 31,
 ⟨(some (some 31, false)), .fieldAddr 41 (.tmp 1) 5, (some 32)⟩,
 ⟨(some (some 31, false)), .load 3 (.tmp 32), (some 33)⟩,
 ⟨(some (some 31, false)), .binOp .gtr 3 (.tmp 33) (.const (.int .i64 255)) 3, (some 34)⟩,
 ⟨none, .pick (.tmp 31) (.const (.bool true)) (.tmp 34), (some 35)⟩]
def sc59r3 : List SOp := [⟨none, .assign (.const (.bool false)), (some 2)⟩]
def sc59r4 : List SOp := [faO 41 1 1 36,
 ldO 39 36 37,
 mvO 3 38,
 ⟨none, .call { callee := .value (.func 110), args := #[(.tmp 37), (.tmp 38)], argTypes := #[39, 3] }, (some 39)⟩,
 ⟨none, .unOp .not 4 (.tmp 39), (some 40)⟩,
 mvO 40 41,
 ⟨(some (some 41, false)), .fieldAddr 41 (.tmp 1) 2, (some 42)⟩,
 ⟨(some (some 41, false)), .load 39 (.tmp 42), (some 43)⟩,
 ⟨(some (some 41, false)), .move (.tmp 3), (some 44)⟩,
 ⟨(some (some 41, false)), .call { callee := .value (.func 110), args := #[(.tmp 43), (.tmp 44)], argTypes := #[39, 3] }, (some 45)⟩,
 ⟨(some (some 41, false)), .unOp .not 4 (.tmp 45), (some 46)⟩,
 ⟨none, .pick (.tmp 41) (.const (.bool true)) (.tmp 46), (some 47)⟩,
 mvO 47 48,
 ⟨(some (some 48, false)), .fieldAddr 41 (.tmp 1) 3, (some 49)⟩,
 ⟨(some (some 48, false)), .load 39 (.tmp 49), (some 50)⟩,
 ⟨(some (some 48, false)), .move (.tmp 3), (some 51)⟩,
 ⟨(some (some 48, false)), .call { callee := .value (.func 110), args := #[(.tmp 50), (.tmp 51)], argTypes := #[39, 3] }, (some 52)⟩,
 ⟨(some (some 48, false)), .unOp .not 4 (.tmp 52), (some 53)⟩,
 ⟨none, .pick (.tmp 48) (.const (.bool true)) (.tmp 53), (some 54)⟩]
def sc59r5 : List SOp := [⟨none, .assign (.const (.bool false)), (some 2)⟩]
def sc59r6 : List SOp := [mvO 3 55,
 ⟨none, .makeSlice 109 (.tmp 55) (.tmp 55), (some 56)⟩,
 asO 56 4]
def sc59r7 : List (SOp × DK) := [(⟨none, .buildSlice 39 0 #[], (some 57)⟩, .Z),
 (⟨none, .fieldAddr 41 (.tmp 1) 1, (some 58)⟩, .L 0 0 []),
 (⟨none, .load 39 (.tmp 58), (some 59)⟩, .L 0 0 []),
 (⟨none, .call { callee := .builtin .append, args := #[(.tmp 57), (.tmp 59)], argTypes := #[39, 39] }, (some 60)⟩, .A [57, 58, 59, 60, 61, 62, 64, 65] [61, 62, 64, 65]),
 (⟨none, .fieldAddr 41 (.tmp 1) 2, (some 61)⟩, .L 0 1 []),
 (⟨none, .load 39 (.tmp 61), (some 62)⟩, .L 0 1 []),
 (⟨none, .call { callee := .builtin .append, args := #[(.tmp 60), (.tmp 62)], argTypes := #[39, 39] }, (some 63)⟩, .A [57, 58, 59, 60, 61, 62, 63, 64, 65] [64, 65]),
 (⟨none, .fieldAddr 41 (.tmp 1) 3, (some 64)⟩, .L 0 2 []),
 (⟨none, .load 39 (.tmp 64), (some 65)⟩, .L 0 2 []),
 (⟨none, .call { callee := .builtin .append, args := #[(.tmp 63), (.tmp 65)], argTypes := #[39, 39] }, (some 66)⟩, .A [57, 58, 59, 60, 61, 62, 63, 64, 65, 66] []),
 (⟨none, .assign (.tmp 66), (some 5)⟩, .L 3 3 [])]
def sc59d7 : SC := .draw sc59r7
def sc59r8 : List SOp := [⟨none, .assign (.const (.int .i64 0)), (some 6)⟩]
def sc59r9 : List SOp := [mvO 6 67,
 mvO 5 68,
 ⟨none, .call { callee := .builtin .len, args := #[(.tmp 68)], argTypes := #[39] }, (some 69)⟩,
 ⟨none, .binOp .lss 3 (.tmp 67) (.tmp 69) 3, (some 70)⟩]
def sc59r10 : List SOp := [mvO 4 73,
 mvO 5 74,
 mvO 6 75,
 ⟨none, .indexAddr 39 (.tmp 74) (.tmp 75), (some 76)⟩,
 ldO 3 76 77,
 ⟨none, .indexAddr 109 (.tmp 73) (.tmp 77), (some 78)⟩,
 ldO 4 78 79]
def sc59r11 : List SOp := [⟨none, .assign (.const (.bool false)), (some 2)⟩]
def sc59r12 : List SOp := [mvO 4 80,
 mvO 5 81,
 mvO 6 82,
 ⟨none, .indexAddr 39 (.tmp 81) (.tmp 82), (some 83)⟩,
 ldO 3 83 84,
 ⟨none, .indexAddr 109 (.tmp 80) (.tmp 84), (some 85)⟩,
 ⟨none, .store 4 (.tmp 85) (.const (.bool true)), none⟩]
def sc59r13 : List SOp := [mvO 6 71,
 ⟨none, .binOp .add 3 (.tmp 71) (.const (.int .i64 1)) 3, (some 72)⟩,
 asO 72 6]
def sc59l14 : SC := (.seq (.seq (.reg sc59r9) (.cond (.tmp 70) .skip (.exit 0))) (.seq (.block 1 (.seq (.seq (.reg sc59r10) (.cond (.tmp 79) (.seq (.reg sc59r11) .ret) .skip)) (.reg sc59r12))) (.reg sc59r13)))
def sc59r15 : List SOp := [⟨none, .assign (.const (.bool true)), (some 2)⟩]
def sc59 : SC := (.seq (.reg sc59r0) (.seq (.reg sc59r1) (.seq (.seq (.reg sc59r2) (.cond (.tmp 35) (.seq (.reg sc59r3) .ret) .skip)) (.seq (.seq (.reg sc59r4) (.cond (.tmp 54) (.seq (.reg sc59r5) .ret) .skip)) (.seq (.reg sc59r6) (.seq sc59d7 (.seq (.seq (.reg sc59r8) (.block 0 (.loop sc59l14))) (.seq (.reg sc59r15) .ret))))))))
theorem ext59 : cx.ext 59 = none := by kernel_rfl
theorem ct59 : CT 59 86 sc59 [.tmp 2] := mkCT (fn := Tryz.f59) (by kernel_rfl) (by kernel_rfl) rfl rfl (by kernel_rfl)
-- understory/understoryref07.increasing
def sc110r0 : List SOp := [⟨none, .assign (.const (.bool false)), (some 4)⟩]
def sc110r1 : List SOp := [⟨none, .assign (.const (.int .i64 0)), (some 5)⟩]
def sc110r2 : List SOp := [mvO 5 6,
 mvO 0 7,
 ⟨none, .call { callee := .builtin .len, args := #[(.tmp 7)], argTypes := #[39] }, (some 8)⟩,
 ⟨none, .binOp .lss 3 (.tmp 6) (.tmp 8) 3, (some 9)⟩]
def sc110r3 : List (SOp × DK) := [(⟨none, .move (.tmp 0), (some 12)⟩, .L 0 0 []),
 (⟨none, .move (.tmp 5), (some 13)⟩, .L 0 0 []),
 (⟨none, .indexAddr 39 (.tmp 12) (.tmp 13), (some 14)⟩, .L 0 0 []),
 (⟨none, .load 3 (.tmp 14), (some 15)⟩, .L 0 0 []),
 (⟨none, .binOp .lss 3 (.tmp 15) (.const (.int .i64 2)) 3, (some 16)⟩, .L 0 0 []),
 (⟨none, .move (.tmp 16), (some 17)⟩, .L 0 0 []),
 (⟨(some (some 17, false)), .move (.tmp 0), (some 18)⟩, .L 0 0 []),
 (⟨(some (some 17, false)), .move (.tmp 5), (some 19)⟩, .L 0 0 []),
 (⟨(some (some 17, false)), .indexAddr 39 (.tmp 18) (.tmp 19), (some 20)⟩, .L 0 0 []),
 (⟨(some (some 17, false)), .load 3 (.tmp 20), (some 21)⟩, .L 0 0 []),
 (⟨(some (some 17, false)), .move (.tmp 1), (some 22)⟩, .L 0 0 []),
 (⟨(some (some 17, false)), .binOp .geq 3 (.tmp 21) (.tmp 22) 3, (some 23)⟩, .L 0 0 []),
 (⟨none, .pick (.tmp 17) (.const (.bool true)) (.tmp 23), (some 24)⟩, .L 0 0 []),
 (⟨none, .move (.tmp 24), (some 25)⟩, .L 0 0 []),
 (⟨(some (some 25, false)), .move (.tmp 5), (some 26)⟩, .L 0 0 []),
 (⟨(some (some 25, false)), .binOp .gtr 3 (.tmp 26) (.const (.int .i64 0)) 3, (some 27)⟩, .L 0 0 []),
 (⟨(some (some 25, false)), .move (.tmp 27), (some 28)⟩, .L 0 0 []),
 (⟨(some (some 28, true)), .move (.tmp 0), (some 29)⟩, .L 0 0 []),
 (⟨(some (some 28, true)), .move (.tmp 5), (some 30)⟩, .L 0 0 []),
 (⟨(some (some 28, true)), .indexAddr 39 (.tmp 29) (.tmp 30), (some 31)⟩, .L 0 0 []),
 (⟨(some (some 28, true)), .load 3 (.tmp 31), (some 32)⟩, .L 0 0 []),
 (⟨(some (some 28, true)), .move (.tmp 0), (some 33)⟩, .L 0 0 []),
 (⟨(some (some 28, true)), .move (.tmp 5), (some 34)⟩, .L 0 0 []),
 (⟨(some (some 28, true)), .binOp .sub 3 (.tmp 34) (.const (.int .i64 1)) 3, (some 35)⟩, .L 0 0 []),
 (⟨(some (some 28, true)), .indexAddr 39 (.tmp 33) (.tmp 35), (some 36)⟩, .L 0 0 []),
 (⟨(some (some 28, true)), .load 3 (.tmp 36), (some 37)⟩, .L 0 0 []),
 (⟨(some (some 28, true)), .binOp .leq 3 (.tmp 32) (.tmp 37) 3, (some 38)⟩, .L 0 0 []),
 (⟨(some (some 25, false)), .pick (.tmp 28) (.tmp 38) (.const (.bool false)), (some 39)⟩, .L 0 0 []),
 (⟨none, .pick (.tmp 25) (.const (.bool true)) (.tmp 39), (some 40)⟩, .L 0 0 [])]
def sc110d3 : SC := .draw sc110r3
theorem sc110d3_x {o rd Q t h d r} : xC cx o rd sc110d3 Q t h d r = xDraw cx o rd Q sc110r3 0 [h] [] [] t h d r := xC_draw (by kernel_rfl)
def sc110r4 : List SOp := [⟨none, .assign (.const (.bool false)), (some 4)⟩]
def sc110r5 : List SOp := [mvO 5 10,
 ⟨none, .binOp .add 3 (.tmp 10) (.const (.int .i64 1)) 3, (some 11)⟩,
 asO 11 5]
def sc110l6 : SC := (.seq (.seq (.reg sc110r2) (.cond (.tmp 9) .skip (.exit 0))) (.seq (.block 1 (.seq sc110d3 (.cond (.tmp 40) (.seq (.reg sc110r4) .ret) .skip))) (.reg sc110r5)))
def sc110r7 : List SOp := [⟨none, .assign (.const (.bool true)), (some 4)⟩]
def sc110 : SC := (.seq (.reg sc110r0) (.seq (.seq (.reg sc110r1) (.block 0 (.loop sc110l6))) (.seq (.reg sc110r7) .ret)))
theorem ext110 : cx.ext 110 = none := by kernel_rfl
theorem ct110 : CT 110 41 sc110 [.tmp 4] := mkCT (fn := Tryz.f110) (by kernel_rfl) (by kernel_rfl) rfl rfl (by kernel_rfl)
-- understory/tree.New
def sc21r0 : List SOp := [⟨none, .alloc 41, (some 2)⟩]
def sc21r1 : List SOp := [mvO 0 5,
 ⟨none, .call { callee := .builtin .max, args := #[(.tmp 5), (.const (.int .i64 2))], argTypes := #[3, 3] }, (some 6)⟩,
 ⟨none, .call { callee := .builtin .min, args := #[(.tmp 6), (.const (.int .i64 4096))], argTypes := #[3, 3] }, (some 7)⟩,
 ⟨none, .makeSlice 38 (.tmp 7) (.tmp 7), (some 8)⟩,
 ⟨none, .build 41 #[(0, (.tmp 8)), (4, (.const (.int .i64 1))), (5, (.const (.int .i64 1)))], (some 9)⟩,
 ⟨none, .alloc 41, (some 3)⟩,
 ⟨none, .store 41 (.tmp 3) (.tmp 9), none⟩]
def sc21r2 : List SOp := [⟨none, .assign (.const (.int .i64 2)), (some 4)⟩]
def sc21r3 : List SOp := [mvO 4 10,
 faO 41 3 0 11,
 ldO 38 11 12,
 ⟨none, .call { callee := .builtin .len, args := #[(.tmp 12)], argTypes := #[38] }, (some 13)⟩,
 ⟨none, .binOp .lss 3 (.tmp 10) (.tmp 13) 3, (some 14)⟩]
def sc21r4 : List SOp := [faO 41 3 1 17,
 ldO 39 17 18,
 mvO 4 19,
 ⟨none, .buildSlice 39 1 #[(0, (.tmp 19))], (some 20)⟩,
 ⟨none, .call { callee := .builtin .append, args := #[(.tmp 18), (.tmp 20)], argTypes := #[39, 39] }, (some 21)⟩,
 faO 41 3 1 22,
 ⟨none, .store 39 (.tmp 22) (.tmp 21), none⟩]
def sc21r5 : List SOp := [mvO 4 15,
 ⟨none, .binOp .add 3 (.tmp 15) (.const (.int .i64 1)) 3, (some 16)⟩,
 asO 16 4]
def sc21l6 : SC := (.seq (.seq (.reg sc21r3) (.cond (.tmp 14) .skip (.exit 0))) (.seq (.block 1 (.reg sc21r4)) (.reg sc21r5)))
def sc21r7 : List SOp := [ldO 41 3 23,
 ⟨none, .store 41 (.tmp 2) (.tmp 23), none⟩]
def sc21 : SC := (.seq (.reg sc21r0) (.seq (.reg sc21r1) (.seq (.seq (.reg sc21r2) (.block 0 (.loop sc21l6))) (.seq (.reg sc21r7) .ret))))
theorem ext21 : cx.ext 21 = none := by kernel_rfl
theorem ct21 : CT 21 24 sc21 [.cell 2 41] := mkCT (fn := Tryz.f21) (by kernel_rfl) (by kernel_rfl) rfl rfl (by kernel_rfl)
-- understory/understoryref07.New
def sc22r0 : List SOp := [⟨none, .alloc 41, (some 2)⟩]
def sc22r1 : List SOp := [mvO 0 6,
 ⟨none, .call { callee := .builtin .min, args := #[(.tmp 6), (.const (.int .i64 4096))], argTypes := #[3, 3] }, (some 7)⟩,
 ⟨none, .call { callee := .builtin .max, args := #[(.const (.int .i64 2)), (.tmp 7)], argTypes := #[3, 3] }, (some 8)⟩,
 asO 8 3]
def sc22r2 : List SOp := [mvO 3 9,
 ⟨none, .makeSlice 38 (.tmp 9) (.tmp 9), (some 10)⟩,
 ⟨none, .build 41 #[(0, (.tmp 10)), (4, (.const (.int .i64 1))), (5, (.const (.int .i64 1)))], (some 11)⟩,
 ⟨none, .alloc 41, (some 4)⟩,
 ⟨none, .store 41 (.tmp 4) (.tmp 11), none⟩]
def sc22r3 : List SOp := [⟨none, .assign (.const (.int .i64 2)), (some 5)⟩]
def sc22r4 : List SOp := [mvO 5 12,
 mvO 3 13,
 ⟨none, .binOp .lss 3 (.tmp 12) (.tmp 13) 3, (some 14)⟩]
def sc22r5 : List SOp := [faO 41 4 1 17,
 ldO 39 17 18,
 mvO 5 19,
 ⟨none, .buildSlice 39 1 #[(0, (.tmp 19))], (some 20)⟩,
 ⟨none, .call { callee := .builtin .append, args := #[(.tmp 18), (.tmp 20)], argTypes := #[39, 39] }, (some 21)⟩,
 faO 41 4 1 22,
 ⟨none, .store 39 (.tmp 22) (.tmp 21), none⟩]
def sc22r6 : List SOp := [mvO 5 15,
 ⟨none, .binOp .add 3 (.tmp 15) (.const (.int .i64 1)) 3, (some 16)⟩,
 asO 16 5]
def sc22l7 : SC := (.seq (.seq (.reg sc22r4) (.cond (.tmp 14) .skip (.exit 0))) (.seq (.block 1 (.reg sc22r5)) (.reg sc22r6)))
def sc22r8 : List SOp := [ldO 41 4 23,
 ⟨none, .store 41 (.tmp 2) (.tmp 23), none⟩]
def sc22 : SC := (.seq (.reg sc22r0) (.seq (.reg sc22r1) (.seq (.reg sc22r2) (.seq (.seq (.reg sc22r3) (.block 0 (.loop sc22l7))) (.seq (.reg sc22r8) .ret)))))
theorem ext22 : cx.ext 22 = none := by kernel_rfl
theorem ct22 : CT 22 24 sc22 [.cell 2 41] := mkCT (fn := Tryz.f22) (by kernel_rfl) (by kernel_rfl) rfl rfl (by kernel_rfl)
-- understory/understoryref07.SameSpace
def sc20r0 : List SOp := [⟨none, .box 41 (.tmp 0), (some 2)⟩,
 ⟨none, .box 41 (.tmp 1), (some 3)⟩,
 ⟨none, .assign (.const (.bool false)), (some 4)⟩]
def sc20r1 : List SOp := [faO 41 2 4 5,
 ldO 3 5 6,
 faO 41 3 4 7,
 ldO 3 7 8,
 ⟨none, .binOp .eql 3 (.tmp 6) (.tmp 8) 3, (some 9)⟩,
 mvO 9 10,
 ⟨(some (some 10, true)), .fieldAddr 41 (.tmp 2) 5, (some 11)⟩,
 ⟨(some (some 10, true)), .load 3 (.tmp 11), (some 12)⟩,
 ⟨(some (some 10, true)), .fieldAddr 41 (.tmp 3) 5, (some 13)⟩,
 ⟨(some (some 10, true)), .load 3 (.tmp 13), (some 14)⟩,
 ⟨(some (some 10, true)), .binOp .eql 3 (.tmp 12) (.tmp 14) 3, (some 15)⟩,
 ⟨none, .pick (.tmp 10) (.tmp 15) (.const (.bool false)), (some 16)⟩,
 mvO 16 17,
 ⟨(some (some 17, true)), .fieldAddr 41 (.tmp 2) 1, (some 18)⟩,
 ⟨(some (some 17, true)), .load 39 (.tmp 18), (some 19)⟩,
 ⟨(some (some 17, true)), .fieldAddr 41 (.tmp 3) 1, (some 20)⟩,
 ⟨(some (some 17, true)), .load 39 (.tmp 20), (some 21)⟩,
 ⟨(some (some 17, true)), .call { callee := .value (.func 38), args := #[(.tmp 19), (.tmp 21)], argTypes := #[39, 39] }, (some 22)⟩,
 ⟨none, .pick (.tmp 17) (.tmp 22) (.const (.bool false)), (some 23)⟩,
 mvO 23 24,
 ⟨(some (some 24, true)), .fieldAddr 41 (.tmp 2) 2, (some 25)⟩,
 ⟨(some (some 24, true)), .load 39 (.tmp 25), (some 26)⟩,
 ⟨(some (some 24, true)), .fieldAddr 41 (.tmp 3) 2, (some 27)⟩,
 ⟨(some (some 24, true)), .load 39 (.tmp 27), (some 28)⟩,
 ⟨(some (some 24, true)), .call { callee := .value (.func 38), args := #[(.tmp 26), (.tmp 28)], argTypes := #[39, 39] }, (some 29)⟩,
 ⟨none, .pick (.tmp 24) (.tmp 29) (.const (.bool false)), (some 30)⟩,
 mvO 30 31,
 ⟨(some (some 31, true)), .fieldAddr 41 (.tmp 2) 3, (some 32)⟩,
 ⟨(some (some 31, true)), .load 39 (.tmp 32), (some 33)⟩,
 ⟨(some (some 31, true)), .fieldAddr 41 (.tmp 3) 3, (some 34)⟩,
 ⟨(some (some 31, true)), .load 39 (.tmp 34), (some 35)⟩,
 ⟨(some (some 31, true)), .call { callee := .value (.func 38), args := #[(.tmp 33), (.tmp 35)], argTypes := #[39, 39] }, (some 36)⟩,
 ⟨none, .pick (.tmp 31) (.tmp 36) (.const (.bool false)), (some 37)⟩,
 mvO 37 38,
 ⟨(some (some 38, true)), .fieldAddr 41 (.tmp 2) 0, (some 39)⟩,
 ⟨(some (some 38, true)), .load 38 (.tmp 39), (some 40)⟩,
 ⟨(some (some 38, true)), .fieldAddr 41 (.tmp 3) 0, (some 41)⟩,
 ⟨(some (some 38, true)), .load 38 (.tmp 41), (some 42)⟩,
 ⟨(some (some 38, true)), .call { callee := .value (.func 60), args := #[(.tmp 40), (.tmp 42)], argTypes := #[38, 38] }, (some 43)⟩,
 ⟨none, .pick (.tmp 38) (.tmp 43) (.const (.bool false)), (some 44)⟩,
 asO 44 4]
def sc20 : SC := (.seq (.reg sc20r0) (.seq (.reg sc20r1) .ret))
theorem ext20 : cx.ext 20 = none := by kernel_rfl
theorem ct20 : CT 20 45 sc20 [.tmp 4] := mkCT (fn := Tryz.f20) (by kernel_rfl) (by kernel_rfl) rfl rfl (by kernel_rfl)
-- understory/understoryref04.SameInts
def sc38r0 : List SOp := [⟨none, .assign (.const (.bool false)), (some 4)⟩]
def sc38r1 : List SOp := [mvO 0 6,
 ⟨none, .call { callee := .builtin .len, args := #[(.tmp 6)], argTypes := #[39] }, (some 7)⟩,
 mvO 1 8,
 ⟨none, .call { callee := .builtin .len, args := #[(.tmp 8)], argTypes := #[39] }, (some 9)⟩,
 ⟨none, .binOp .neq 3 (.tmp 7) (.tmp 9) 3, (some 10)⟩]
def sc38r2 : List SOp := [⟨none, .assign (.const (.bool false)), (some 4)⟩]
def sc38r3 : List SOp := [⟨none, .assign (.const (.int .i64 0)), (some 5)⟩]
def sc38r4 : List SOp := [mvO 5 11,
 mvO 0 12,
 ⟨none, .call { callee := .builtin .len, args := #[(.tmp 12)], argTypes := #[39] }, (some 13)⟩,
 ⟨none, .binOp .lss 3 (.tmp 11) (.tmp 13) 3, (some 14)⟩]
def sc38r5 : List (SOp × DK) := [(⟨none, .move (.tmp 0), (some 17)⟩, .L 0 0 []),
 (⟨none, .move (.tmp 5), (some 18)⟩, .L 0 0 []),
 (⟨none, .indexAddr 39 (.tmp 17) (.tmp 18), (some 19)⟩, .L 0 0 []),
 (⟨none, .load 3 (.tmp 19), (some 20)⟩, .L 0 0 []),
 (⟨none, .move (.tmp 1), (some 21)⟩, .L 0 0 []),
 (⟨none, .move (.tmp 5), (some 22)⟩, .L 0 0 []),
 (⟨none, .indexAddr 39 (.tmp 21) (.tmp 22), (some 23)⟩, .L 0 0 []),
 (⟨none, .load 3 (.tmp 23), (some 24)⟩, .L 0 0 []),
 (⟨none, .binOp .neq 3 (.tmp 20) (.tmp 24) 3, (some 25)⟩, .L 0 0 [])]
def sc38d5 : SC := .draw sc38r5
theorem sc38d5_x {o rd Q t h d r} : xC cx o rd sc38d5 Q t h d r = xDraw cx o rd Q sc38r5 0 [h] [] [] t h d r := xC_draw (by kernel_rfl)
def sc38r6 : List SOp := [⟨none, .assign (.const (.bool false)), (some 4)⟩]
def sc38r7 : List SOp := [mvO 5 15,
 ⟨none, .binOp .add 3 (.tmp 15) (.const (.int .i64 1)) 3, (some 16)⟩,
 asO 16 5]
def sc38l8 : SC := (.seq (.seq (.reg sc38r4) (.cond (.tmp 14) .skip (.exit 0))) (.seq (.block 1 (.seq sc38d5 (.cond (.tmp 25) (.seq (.reg sc38r6) .ret) .skip))) (.reg sc38r7)))
def sc38r9 : List SOp := [⟨none, .assign (.const (.bool true)), (some 4)⟩]
def sc38 : SC := (.seq (.reg sc38r0) (.seq (.seq (.reg sc38r1) (.cond (.tmp 10) (.seq (.reg sc38r2) .ret) .skip)) (.seq (.seq (.reg sc38r3) (.block 0 (.loop sc38l8))) (.seq (.reg sc38r9) .ret))))
theorem ext38 : cx.ext 38 = none := by kernel_rfl
theorem ct38 : CT 38 26 sc38 [.tmp 4] := mkCT (fn := Tryz.f38) (by kernel_rfl) (by kernel_rfl) rfl rfl (by kernel_rfl)
-- understory/understoryref04.SamePages
def sc60r0 : List SOp := [⟨none, .assign (.const (.bool false)), (some 4)⟩]
def sc60r1 : List SOp := [mvO 0 6,
 ⟨none, .call { callee := .builtin .len, args := #[(.tmp 6)], argTypes := #[38] }, (some 7)⟩,
 mvO 1 8,
 ⟨none, .call { callee := .builtin .len, args := #[(.tmp 8)], argTypes := #[38] }, (some 9)⟩,
 ⟨none, .binOp .neq 3 (.tmp 7) (.tmp 9) 3, (some 10)⟩]
def sc60r2 : List SOp := [⟨none, .assign (.const (.bool false)), (some 4)⟩]
def sc60r3 : List SOp := [⟨none, .assign (.const (.int .i64 0)), (some 5)⟩]
def sc60r4 : List SOp := [mvO 5 11,
 mvO 0 12,
 ⟨none, .call { callee := .builtin .len, args := #[(.tmp 12)], argTypes := #[38] }, (some 13)⟩,
 ⟨none, .binOp .lss 3 (.tmp 11) (.tmp 13) 3, (some 14)⟩]
def sc60r5 : List (SOp × DK) := [(⟨none, .move (.tmp 0), (some 17)⟩, .L 0 0 []),
 (⟨none, .move (.tmp 5), (some 18)⟩, .L 0 0 []),
 (⟨none, .indexAddr 38 (.tmp 17) (.tmp 18), (some 19)⟩, .L 0 0 []),
 (⟨none, .load 79 (.tmp 19), (some 20)⟩, .L 0 0 []),
 (⟨none, .move (.tmp 1), (some 21)⟩, .L 0 0 []),
 (⟨none, .move (.tmp 5), (some 22)⟩, .L 0 0 []),
 (⟨none, .indexAddr 38 (.tmp 21) (.tmp 22), (some 23)⟩, .L 0 0 []),
 (⟨none, .load 79 (.tmp 23), (some 24)⟩, .L 0 0 []),
 (⟨none, .call { callee := .value (.func 111), args := #[(.tmp 20), (.tmp 24)], argTypes := #[79, 79] }, (some 25)⟩, .A [17, 18, 19, 20, 21, 22, 23, 24, 25] []),
 (⟨none, .unOp .not 4 (.tmp 25), (some 26)⟩, .L 1 1 [])]
def sc60d5 : SC := .draw sc60r5
theorem sc60d5_x {o rd Q t h d r} : xC cx o rd sc60d5 Q t h d r = xDraw cx o rd Q sc60r5 0 [h] [] [] t h d r := xC_draw (by kernel_rfl)
def sc60r6 : List SOp := [⟨none, .assign (.const (.bool false)), (some 4)⟩]
def sc60r7 : List SOp := [mvO 5 15,
 ⟨none, .binOp .add 3 (.tmp 15) (.const (.int .i64 1)) 3, (some 16)⟩,
 asO 16 5]
def sc60l8 : SC := (.seq (.seq (.reg sc60r4) (.cond (.tmp 14) .skip (.exit 0))) (.seq (.block 1 (.seq sc60d5 (.cond (.tmp 26) (.seq (.reg sc60r6) .ret) .skip))) (.reg sc60r7)))
def sc60r9 : List SOp := [⟨none, .assign (.const (.bool true)), (some 4)⟩]
def sc60 : SC := (.seq (.reg sc60r0) (.seq (.seq (.reg sc60r1) (.cond (.tmp 10) (.seq (.reg sc60r2) .ret) .skip)) (.seq (.seq (.reg sc60r3) (.block 0 (.loop sc60l8))) (.seq (.reg sc60r9) .ret))))
theorem ext60 : cx.ext 60 = none := by kernel_rfl
theorem ct60 : CT 60 27 sc60 [.tmp 4] := mkCT (fn := Tryz.f60) (by kernel_rfl) (by kernel_rfl) rfl rfl (by kernel_rfl)
-- understory/understoryref04.Same
def sc111r0 : List SOp := [⟨none, .box 79 (.tmp 0), (some 2)⟩,
 ⟨none, .box 79 (.tmp 1), (some 3)⟩,
 ⟨none, .assign (.const (.bool false)), (some 4)⟩]
def sc111r1 : List SOp := [faO 79 2 0 5,
 ldO 3 5 6,
 faO 79 3 0 7,
 ldO 3 7 8,
 ⟨none, .binOp .neq 3 (.tmp 6) (.tmp 8) 3, (some 9)⟩,
 mvO 9 10,
 ⟨(some (some 10, false)), .fieldAddr 79 (.tmp 2) 1, (some 11)⟩,
 ⟨(some (some 10, false)), .load 3 (.tmp 11), (some 12)⟩,
 ⟨(some (some 10, false)), .fieldAddr 79 (.tmp 3) 1, (some 13)⟩,
 ⟨(some (some 10, false)), .load 3 (.tmp 13), (some 14)⟩,
 ⟨(some (some 10, false)), .binOp .neq 3 (.tmp 12) (.tmp 14) 3, (some 15)⟩,
 ⟨none, .pick (.tmp 10) (.const (.bool true)) (.tmp 15), (some 16)⟩,
 mvO 16 17,
 ⟨(some (some 17, false)), .fieldAddr 79 (.tmp 2) 2, (some 18)⟩,
 ⟨(some (some 17, false)), .load 3 (.tmp 18), (some 19)⟩,
 ⟨(some (some 17, false)), .fieldAddr 79 (.tmp 3) 2, (some 20)⟩,
 ⟨(some (some 17, false)), .load 3 (.tmp 20), (some 21)⟩,
 ⟨(some (some 17, false)), .binOp .neq 3 (.tmp 19) (.tmp 21) 3, (some 22)⟩,
 ⟨none, .pick (.tmp 17) (.const (.bool true)) (.tmp 22), (some 23)⟩,
 mvO 23 24,
 ⟨(some (some 24, false)), .fieldAddr 79 (.tmp 2) 3, (some 25)⟩,
 ⟨(some (some 24, false)), .load 3 (.tmp 25), (some 26)⟩,
 ⟨(some (some 24, false)), .fieldAddr 79 (.tmp 3) 3, (some 27)⟩,
 ⟨(some (some 24, false)), .load 3 (.tmp 27), (some 28)⟩,
 ⟨(some (some 24, false)), .binOp .neq 3 (.tmp 26) (.tmp 28) 3, (some 29)⟩,
 ⟨none, .pick (.tmp 24) (.const (.bool true)) (.tmp 29), (some 30)⟩,
 mvO 30 31,
 ⟨(some (some 31, false)), .fieldAddr 79 (.tmp 2) 4, (some 32)⟩,
 ⟨(some (some 31, false)), .load 3 (.tmp 32), (some 33)⟩,
 ⟨(some (some 31, false)), .fieldAddr 79 (.tmp 3) 4, (some 34)⟩,
 ⟨(some (some 31, false)), .load 3 (.tmp 34), (some 35)⟩,
 ⟨(some (some 31, false)), .binOp .neq 3 (.tmp 33) (.tmp 35) 3, (some 36)⟩,
 ⟨none, .pick (.tmp 31) (.const (.bool true)) (.tmp 36), (some 37)⟩,
 mvO 37 38,
 ⟨(some (some 38, false)), .fieldAddr 79 (.tmp 2) 5, (some 39)⟩,
 ⟨(some (some 38, false)), .load 4 (.tmp 39), (some 40)⟩,
 ⟨(some (some 38, false)), .fieldAddr 79 (.tmp 3) 5, (some 41)⟩,
 ⟨(some (some 38, false)), .load 4 (.tmp 41), (some 42)⟩,
 ⟨(some (some 38, false)), .binOp .neq 4 (.tmp 40) (.tmp 42) 4, (some 43)⟩,
 ⟨none, .pick (.tmp 38) (.const (.bool true)) (.tmp 43), (some 44)⟩,
 mvO 44 45,
 ⟨(some (some 45, false)), .fieldAddr 79 (.tmp 2) 7, (some 46)⟩,
 ⟨(some (some 45, false)), .load 3 (.tmp 46), (some 47)⟩,
 ⟨(some (some 45, false)), .fieldAddr 79 (.tmp 3) 7, (some 48)⟩,
 ⟨(some (some 45, false)), .load 3 (.tmp 48), (some 49)⟩,
 ⟨(some (some 45, false)), .binOp .neq 3 (.tmp 47) (.tmp 49) 3, (some 50)⟩,
 ⟨none, .pick (.tmp 45) (.const (.bool true)) (.tmp 50), (some 51)⟩,
 mvO 51 52,
 ⟨(some (some 52, false)), .fieldAddr 79 (.tmp 2) 8, (some 53)⟩,
 ⟨(some (some 52, false)), .load 9 (.tmp 53), (some 54)⟩,
 ⟨(some (some 52, false)), .fieldAddr 79 (.tmp 3) 8, (some 55)⟩,
 ⟨(some (some 52, false)), .load 9 (.tmp 55), (some 56)⟩,
 ⟨(some (some 52, false)), .binOp .neq 9 (.tmp 54) (.tmp 56) 9, (some 57)⟩,
 ⟨none, .pick (.tmp 52) (.const (.bool true)) (.tmp 57), (some 58)⟩]
def sc111r2 : List SOp := [⟨none, .assign (.const (.bool false)), (some 4)⟩]
def sc111r3 : List SOp := [faO 79 2 6 59,
 ldO 76 59 60,
 faO 79 3 6 61,
 ldO 76 61 62,
 ⟨none, .call { callee := .value (.func 148), args := #[(.tmp 60), (.tmp 62)], argTypes := #[76, 76] }, (some 63)⟩,
 mvO 63 64,
 ⟨(some (some 64, true)), .fieldAddr 79 (.tmp 2) 9, (some 65)⟩,
 ⟨(some (some 64, true)), .load 77 (.tmp 65), (some 66)⟩,
 ⟨(some (some 64, true)), .fieldAddr 79 (.tmp 3) 9, (some 67)⟩,
 ⟨(some (some 64, true)), .load 77 (.tmp 67), (some 68)⟩,
 ⟨(some (some 64, true)), .call { callee := .value (.func 149), args := #[(.tmp 66), (.tmp 68)], argTypes := #[77, 77] }, (some 69)⟩,
 ⟨none, .pick (.tmp 64) (.tmp 69) (.const (.bool false)), (some 70)⟩,
 asO 70 4]
def sc111 : SC := (.seq (.reg sc111r0) (.seq (.seq (.reg sc111r1) (.cond (.tmp 58) (.seq (.reg sc111r2) .ret) .skip)) (.seq (.reg sc111r3) .ret)))
theorem ext111 : cx.ext 111 = none := by kernel_rfl
theorem ct111 : CT 111 71 sc111 [.tmp 4] := mkCT (fn := Tryz.f111) (by kernel_rfl) (by kernel_rfl) rfl rfl (by kernel_rfl)
-- understory/understoryref04.SameEntries
def sc148r0 : List SOp := [⟨none, .assign (.const (.bool false)), (some 4)⟩]
def sc148r1 : List SOp := [mvO 0 6,
 ⟨none, .call { callee := .builtin .len, args := #[(.tmp 6)], argTypes := #[76] }, (some 7)⟩,
 mvO 1 8,
 ⟨none, .call { callee := .builtin .len, args := #[(.tmp 8)], argTypes := #[76] }, (some 9)⟩,
 ⟨none, .binOp .neq 3 (.tmp 7) (.tmp 9) 3, (some 10)⟩]
def sc148r2 : List SOp := [⟨none, .assign (.const (.bool false)), (some 4)⟩]
def sc148r3 : List SOp := [⟨none, .assign (.const (.int .i64 0)), (some 5)⟩]
def sc148r4 : List SOp := [mvO 5 11,
 mvO 0 12,
 ⟨none, .call { callee := .builtin .len, args := #[(.tmp 12)], argTypes := #[76] }, (some 13)⟩,
 ⟨none, .binOp .lss 3 (.tmp 11) (.tmp 13) 3, (some 14)⟩]
def sc148r5 : List (SOp × DK) := [(⟨none, .move (.tmp 0), (some 17)⟩, .L 0 0 []),
 (⟨none, .move (.tmp 5), (some 18)⟩, .L 0 0 []),
 (⟨none, .indexAddr 76 (.tmp 17) (.tmp 18), (some 19)⟩, .L 0 0 []),
 (⟨none, .load 50 (.tmp 19), (some 20)⟩, .L 0 0 []),
 (⟨none, .move (.tmp 1), (some 21)⟩, .L 0 0 []),
 (⟨none, .move (.tmp 5), (some 22)⟩, .L 0 0 []),
 (⟨none, .indexAddr 76 (.tmp 21) (.tmp 22), (some 23)⟩, .L 0 0 []),
 (⟨none, .load 50 (.tmp 23), (some 24)⟩, .L 0 0 []),
 (⟨none, .binOp .neq 50 (.tmp 20) (.tmp 24) 50, (some 25)⟩, .L 0 0 [])]
def sc148d5 : SC := .draw sc148r5
theorem sc148d5_x {o rd Q t h d r} : xC cx o rd sc148d5 Q t h d r = xDraw cx o rd Q sc148r5 0 [h] [] [] t h d r := xC_draw (by kernel_rfl)
def sc148r6 : List SOp := [⟨none, .assign (.const (.bool false)), (some 4)⟩]
def sc148r7 : List SOp := [mvO 5 15,
 ⟨none, .binOp .add 3 (.tmp 15) (.const (.int .i64 1)) 3, (some 16)⟩,
 asO 16 5]
def sc148l8 : SC := (.seq (.seq (.reg sc148r4) (.cond (.tmp 14) .skip (.exit 0))) (.seq (.block 1 (.seq sc148d5 (.cond (.tmp 25) (.seq (.reg sc148r6) .ret) .skip))) (.reg sc148r7)))
def sc148r9 : List SOp := [⟨none, .assign (.const (.bool true)), (some 4)⟩]
def sc148 : SC := (.seq (.reg sc148r0) (.seq (.seq (.reg sc148r1) (.cond (.tmp 10) (.seq (.reg sc148r2) .ret) .skip)) (.seq (.seq (.reg sc148r3) (.block 0 (.loop sc148l8))) (.seq (.reg sc148r9) .ret))))
theorem ext148 : cx.ext 148 = none := by kernel_rfl
theorem ct148 : CT 148 26 sc148 [.tmp 4] := mkCT (fn := Tryz.f148) (by kernel_rfl) (by kernel_rfl) rfl rfl (by kernel_rfl)
-- understory/understoryref04.SameFreed
def sc149r0 : List SOp := [⟨none, .assign (.const (.bool false)), (some 4)⟩]
def sc149r1 : List SOp := [mvO 0 6,
 ⟨none, .call { callee := .builtin .len, args := #[(.tmp 6)], argTypes := #[77] }, (some 7)⟩,
 mvO 1 8,
 ⟨none, .call { callee := .builtin .len, args := #[(.tmp 8)], argTypes := #[77] }, (some 9)⟩,
 ⟨none, .binOp .neq 3 (.tmp 7) (.tmp 9) 3, (some 10)⟩]
def sc149r2 : List SOp := [⟨none, .assign (.const (.bool false)), (some 4)⟩]
def sc149r3 : List SOp := [⟨none, .assign (.const (.int .i64 0)), (some 5)⟩]
def sc149r4 : List SOp := [mvO 5 11,
 mvO 0 12,
 ⟨none, .call { callee := .builtin .len, args := #[(.tmp 12)], argTypes := #[77] }, (some 13)⟩,
 ⟨none, .binOp .lss 3 (.tmp 11) (.tmp 13) 3, (some 14)⟩]
def sc149r5 : List (SOp × DK) := [(⟨none, .move (.tmp 0), (some 17)⟩, .L 0 0 []),
 (⟨none, .move (.tmp 5), (some 18)⟩, .L 0 0 []),
 (⟨none, .indexAddr 77 (.tmp 17) (.tmp 18), (some 19)⟩, .L 0 0 []),
 (⟨none, .fieldAddr 154 (.tmp 19) 0, (some 20)⟩, .L 0 0 []),
 (⟨none, .load 3 (.tmp 20), (some 21)⟩, .L 0 0 []),
 (⟨none, .move (.tmp 1), (some 22)⟩, .L 0 0 []),
 (⟨none, .move (.tmp 5), (some 23)⟩, .L 0 0 []),
 (⟨none, .indexAddr 77 (.tmp 22) (.tmp 23), (some 24)⟩, .L 0 0 []),
 (⟨none, .fieldAddr 154 (.tmp 24) 0, (some 25)⟩, .L 0 0 []),
 (⟨none, .load 3 (.tmp 25), (some 26)⟩, .L 0 0 []),
 (⟨none, .binOp .neq 3 (.tmp 21) (.tmp 26) 3, (some 27)⟩, .L 0 0 []),
 (⟨none, .move (.tmp 27), (some 28)⟩, .L 0 0 []),
 (⟨(some (some 28, false)), .move (.tmp 0), (some 29)⟩, .L 0 0 []),
 (⟨(some (some 28, false)), .move (.tmp 5), (some 30)⟩, .L 0 0 []),
 (⟨(some (some 28, false)), .indexAddr 77 (.tmp 29) (.tmp 30), (some 31)⟩, .L 0 0 []),
 (⟨(some (some 28, false)), .fieldAddr 154 (.tmp 31) 1, (some 32)⟩, .L 0 0 []),
 (⟨(some (some 28, false)), .load 39 (.tmp 32), (some 33)⟩, .L 0 0 []),
 (⟨(some (some 28, false)), .move (.tmp 1), (some 34)⟩, .L 0 0 []),
 (⟨(some (some 28, false)), .move (.tmp 5), (some 35)⟩, .L 0 0 []),
 (⟨(some (some 28, false)), .indexAddr 77 (.tmp 34) (.tmp 35), (some 36)⟩, .L 0 0 []),
 (⟨(some (some 28, false)), .fieldAddr 154 (.tmp 36) 1, (some 37)⟩, .L 0 0 []),
 (⟨(some (some 28, false)), .load 39 (.tmp 37), (some 38)⟩, .L 0 0 []),
 (⟨(some (some 28, false)), .call { callee := .value (.func 38), args := #[(.tmp 33), (.tmp 38)], argTypes := #[39, 39] }, (some 39)⟩, .A [17, 18, 19, 20, 21, 22, 23, 24, 25, 26, 27, 28, 29, 30, 31, 32, 33, 34, 35, 36, 37, 38, 39] []),
 (⟨(some (some 28, false)), .unOp .not 4 (.tmp 39), (some 40)⟩, .L 1 1 []),
 (⟨none, .pick (.tmp 28) (.const (.bool true)) (.tmp 40), (some 41)⟩, .L 1 1 [])]
def sc149d5 : SC := .draw sc149r5
theorem sc149d5_x {o rd Q t h d r} : xC cx o rd sc149d5 Q t h d r = xDraw cx o rd Q sc149r5 0 [h] [] [] t h d r := xC_draw (by kernel_rfl)
def sc149r6 : List SOp := [⟨none, .assign (.const (.bool false)), (some 4)⟩]
def sc149r7 : List SOp := [mvO 5 15,
 ⟨none, .binOp .add 3 (.tmp 15) (.const (.int .i64 1)) 3, (some 16)⟩,
 asO 16 5]
def sc149l8 : SC := (.seq (.seq (.reg sc149r4) (.cond (.tmp 14) .skip (.exit 0))) (.seq (.block 1 (.seq sc149d5 (.cond (.tmp 41) (.seq (.reg sc149r6) .ret) .skip))) (.reg sc149r7)))
def sc149r9 : List SOp := [⟨none, .assign (.const (.bool true)), (some 4)⟩]
def sc149 : SC := (.seq (.reg sc149r0) (.seq (.seq (.reg sc149r1) (.cond (.tmp 10) (.seq (.reg sc149r2) .ret) .skip)) (.seq (.seq (.reg sc149r3) (.block 0 (.loop sc149l8))) (.seq (.reg sc149r9) .ret))))
theorem ext149 : cx.ext 149 = none := by kernel_rfl
theorem ct149 : CT 149 42 sc149 [.tmp 4] := mkCT (fn := Tryz.f149) (by kernel_rfl) (by kernel_rfl) rfl rfl (by kernel_rfl)
-- understory/understorylaw07.like
def sc23r0 : List SOp := [⟨none, .box 41 (.tmp 0), (some 4)⟩,
 ⟨none, .box 48 (.tmp 1), (some 5)⟩,
 ⟨none, .box 52 (.tmp 3), (some 7)⟩,
 ⟨none, .assign (.const (.bool false)), (some 8)⟩]
def sc23r1 : List SOp := [mvO 2 9,
 faO 52 7 4 10,
 ldO 25 10 11,
 ⟨none, .binOp .eql 25 (.tmp 9) (.tmp 11) 25, (some 12)⟩,
 mvO 12 13,
 ⟨(some (some 13, true)), .load 48 (.tmp 5), (some 14)⟩,
 ⟨(some (some 13, true)), .fieldAddr 52 (.tmp 7) 1, (some 15)⟩,
 ⟨(some (some 13, true)), .load 48 (.tmp 15), (some 16)⟩,
 ⟨(some (some 13, true)), .binOp .eql 48 (.tmp 14) (.tmp 16) 48, (some 17)⟩,
 ⟨none, .pick (.tmp 13) (.tmp 17) (.const (.bool false)), (some 18)⟩,
 mvO 18 19,
 ⟨(some (some 19, true)), .load 41 (.tmp 4), (some 20)⟩,
 ⟨(some (some 19, true)), .fieldAddr 52 (.tmp 7) 0, (some 21)⟩,
 ⟨(some (some 19, true)), .load 41 (.tmp 21), (some 22)⟩,
 ⟨(some (some 19, true)), .call { callee := .value (.func 20), args := #[(.tmp 20), (.tmp 22)], argTypes := #[41, 41] }, (some 23)⟩,
 ⟨none, .pick (.tmp 19) (.tmp 23) (.const (.bool false)), (some 24)⟩,
 asO 24 8]
def sc23 : SC := (.seq (.reg sc23r0) (.seq (.reg sc23r1) .ret))
theorem ext23 : cx.ext 23 = none := by kernel_rfl
theorem ct23 : CT 23 25 sc23 [.tmp 8] := mkCT (fn := Tryz.f23) (by kernel_rfl) (by kernel_rfl) rfl rfl (by kernel_rfl)
theorem u3 : cx.under 3 = some (.int .i64) := by kernel_rfl
theorem s3 : sizeOf? cx 3 = some 1 := by kernel_rfl
theorem a3 : aggT? cx 3 = some false := by kernel_rfl
theorem z3 : zero? cx 3 = some (.int .i64 0) := by kernel_rfl
theorem room3 : room cx 3 1000000000 = true := by kernel_rfl
theorem u4 : cx.under 4 = some .bool := by kernel_rfl
theorem s4 : sizeOf? cx 4 = some 1 := by kernel_rfl
theorem a4 : aggT? cx 4 = some false := by kernel_rfl
theorem z4 : zero? cx 4 = some (.bool false) := by kernel_rfl
theorem u5 : cx.under 5 = some (.int .u8) := by kernel_rfl
theorem s5 : sizeOf? cx 5 = some 1 := by kernel_rfl
theorem a5 : aggT? cx 5 = some false := by kernel_rfl
theorem z5 : zero? cx 5 = some (.int .u8 0) := by kernel_rfl
theorem u9 : cx.under 9 = some .string := by kernel_rfl
theorem s9 : sizeOf? cx 9 = some 1 := by kernel_rfl
theorem a9 : aggT? cx 9 = some false := by kernel_rfl
theorem z9 : zero? cx 9 = some (.str []) := by kernel_rfl
theorem u22 : cx.under 22 = some (.slice 9) := by kernel_rfl
theorem s22 : sizeOf? cx 22 = some 1 := by kernel_rfl
theorem a22 : aggT? cx 22 = some false := by kernel_rfl
theorem u25 : cx.under 25 = some (.int .i64) := by kernel_rfl
theorem s25 : sizeOf? cx 25 = some 1 := by kernel_rfl
theorem a25 : aggT? cx 25 = some false := by kernel_rfl
theorem z25 : zero? cx 25 = some (.int .i64 0) := by kernel_rfl
theorem s29 : sizeOf? cx 29 = some 2 := by kernel_rfl
theorem a29 : aggT? cx 29 = some true := by kernel_rfl
theorem s34 : sizeOf? cx 34 = some 2 := by kernel_rfl
theorem a34 : aggT? cx 34 = some true := by kernel_rfl
theorem u130 : cx.under 130 = some (.slice 5) := by kernel_rfl
theorem s130 : sizeOf? cx 130 = some 1 := by kernel_rfl
theorem a130 : aggT? cx 130 = some false := by kernel_rfl
theorem u228 : cx.under 228 = some (.int .u64) := by kernel_rfl
theorem u272 : cx.under 272 = some (.int .u32) := by kernel_rfl
theorem s272 : sizeOf? cx 272 = some 1 := by kernel_rfl
theorem a272 : aggT? cx 272 = some false := by kernel_rfl
theorem u273 : cx.under 273 = some (.array 8 272) := by kernel_rfl
theorem s273 : sizeOf? cx 273 = some 8 := by kernel_rfl
theorem a273 : aggT? cx 273 = some true := by kernel_rfl
theorem u274 : cx.under 274 = some (.array 64 272) := by kernel_rfl
theorem s274 : sizeOf? cx 274 = some 64 := by kernel_rfl
theorem s279 : sizeOf? cx 279 = some 10 := by kernel_rfl
theorem f279_0 : (fieldOf cx 279 0).map (fun f => (f.type, f.offset)) = some (273, 0) := by kernel_rfl
theorem f281_0 : (fieldOf cx 281 0).map (fun f => (f.type, f.offset)) = some (279, 0) := by kernel_rfl
theorem f281_1 : (fieldOf cx 281 1).map (fun f => (f.type, f.offset)) = some (274, 10) := by kernel_rfl
theorem u38 : cx.under 38 = some (.slice 79) := by kernel_rfl
theorem s38 : sizeOf? cx 38 = some 1 := by kernel_rfl
theorem a38 : aggT? cx 38 = some false := by kernel_rfl
theorem u39 : cx.under 39 = some (.slice 3) := by kernel_rfl
theorem s39 : sizeOf? cx 39 = some 1 := by kernel_rfl
theorem a39 : aggT? cx 39 = some false := by kernel_rfl
theorem z39 : zero? cx 39 = some (.nils) := by kernel_rfl
theorem s41 : sizeOf? cx 41 = some 6 := by kernel_rfl
theorem a41 : aggT? cx 41 = some true := by kernel_rfl
theorem f41_0 : (fieldOf cx 41 0).map (fun f => (f.type, f.offset)) = some (38, 0) := by kernel_rfl
theorem f41_1 : (fieldOf cx 41 1).map (fun f => (f.type, f.offset)) = some (39, 1) := by kernel_rfl
theorem f41_2 : (fieldOf cx 41 2).map (fun f => (f.type, f.offset)) = some (39, 2) := by kernel_rfl
theorem f41_3 : (fieldOf cx 41 3).map (fun f => (f.type, f.offset)) = some (39, 3) := by kernel_rfl
theorem f41_4 : (fieldOf cx 41 4).map (fun f => (f.type, f.offset)) = some (3, 4) := by kernel_rfl
theorem f41_5 : (fieldOf cx 41 5).map (fun f => (f.type, f.offset)) = some (3, 5) := by kernel_rfl
theorem s48 : sizeOf? cx 48 = some 18 := by kernel_rfl
theorem a48 : aggT? cx 48 = some true := by kernel_rfl
theorem s50 : sizeOf? cx 50 = some 22 := by kernel_rfl
theorem a50 : aggT? cx 50 = some true := by kernel_rfl
theorem s52 : sizeOf? cx 52 = some 48 := by kernel_rfl
theorem a52 : aggT? cx 52 = some true := by kernel_rfl
theorem f52_0 : (fieldOf cx 52 0).map (fun f => (f.type, f.offset)) = some (41, 0) := by kernel_rfl
theorem f52_1 : (fieldOf cx 52 1).map (fun f => (f.type, f.offset)) = some (48, 6) := by kernel_rfl
theorem f52_3 : (fieldOf cx 52 3).map (fun f => (f.type, f.offset)) = some (3, 46) := by kernel_rfl
theorem f52_4 : (fieldOf cx 52 4).map (fun f => (f.type, f.offset)) = some (25, 47) := by kernel_rfl
theorem s79 : sizeOf? cx 79 = some 10 := by kernel_rfl
theorem a79 : aggT? cx 79 = some true := by kernel_rfl
theorem f79_0 : (fieldOf cx 79 0).map (fun f => (f.type, f.offset)) = some (3, 0) := by kernel_rfl
theorem f79_1 : (fieldOf cx 79 1).map (fun f => (f.type, f.offset)) = some (3, 1) := by kernel_rfl
theorem f79_2 : (fieldOf cx 79 2).map (fun f => (f.type, f.offset)) = some (3, 2) := by kernel_rfl
theorem f79_3 : (fieldOf cx 79 3).map (fun f => (f.type, f.offset)) = some (3, 3) := by kernel_rfl
theorem f79_4 : (fieldOf cx 79 4).map (fun f => (f.type, f.offset)) = some (3, 4) := by kernel_rfl
theorem f79_5 : (fieldOf cx 79 5).map (fun f => (f.type, f.offset)) = some (4, 5) := by kernel_rfl
theorem f79_6 : (fieldOf cx 79 6).map (fun f => (f.type, f.offset)) = some (76, 6) := by kernel_rfl
theorem f79_7 : (fieldOf cx 79 7).map (fun f => (f.type, f.offset)) = some (3, 7) := by kernel_rfl
theorem f79_8 : (fieldOf cx 79 8).map (fun f => (f.type, f.offset)) = some (9, 8) := by kernel_rfl
theorem f79_9 : (fieldOf cx 79 9).map (fun f => (f.type, f.offset)) = some (77, 9) := by kernel_rfl
theorem s101 : sizeOf? cx 101 = some 6 := by kernel_rfl
theorem a101 : aggT? cx 101 = some true := by kernel_rfl
theorem f101_0 : (fieldOf cx 101 0).map (fun f => (f.type, f.offset)) = some (41, 0) := by kernel_rfl
theorem u109 : cx.under 109 = some (.slice 4) := by kernel_rfl
theorem s109 : sizeOf? cx 109 = some 1 := by kernel_rfl
theorem u110 : cx.under 110 = some (.slice 39) := by kernel_rfl
theorem s110 : sizeOf? cx 110 = some 1 := by kernel_rfl
theorem s170 : sizeOf? cx 170 = some 1 := by kernel_rfl
theorem f136_0 : (fieldOf cx 136 0).map (fun f => (f.type, f.offset)) = some (41, 0) := by kernel_rfl
theorem f136_1 : (fieldOf cx 136 1).map (fun f => (f.type, f.offset)) = some (25, 6) := by kernel_rfl
theorem u76 : cx.under 76 = some (.slice 50) := by kernel_rfl
theorem s76 : sizeOf? cx 76 = some 1 := by kernel_rfl
theorem a76 : aggT? cx 76 = some false := by kernel_rfl
theorem u77 : cx.under 77 = some (.slice 154) := by kernel_rfl
theorem s77 : sizeOf? cx 77 = some 1 := by kernel_rfl
theorem a77 : aggT? cx 77 = some false := by kernel_rfl
theorem s154 : sizeOf? cx 154 = some 2 := by kernel_rfl
theorem fa0 (k : Nat) : fieldAddr? cx 41 (.ptr k 0) 0 = some (.ptr k 0) := fieldAddr_ptr (m := 0) f41_0 s38
theorem fa1 (k : Nat) : fieldAddr? cx 41 (.ptr k 0) 1 = some (.ptr k 1) := fieldAddr_ptr (m := 0) f41_1 s39
theorem fa2 (k : Nat) : fieldAddr? cx 41 (.ptr k 0) 2 = some (.ptr k 2) := fieldAddr_ptr (m := 0) f41_2 s39
theorem fa3 (k : Nat) : fieldAddr? cx 41 (.ptr k 0) 3 = some (.ptr k 3) := fieldAddr_ptr (m := 0) f41_3 s39
theorem fa4 (k : Nat) : fieldAddr? cx 41 (.ptr k 0) 4 = some (.ptr k 4) := fieldAddr_ptr (m := 0) f41_4 s3
theorem fa5 (k : Nat) : fieldAddr? cx 41 (.ptr k 0) 5 = some (.ptr k 5) := fieldAddr_ptr (m := 0) f41_5 s3
theorem fA (k : Nat) : fieldAddr? cx 101 (.ptr k 0) 0 = some (.ptr k 0) := fieldAddr_ptr (m := 5) f101_0 s41
theorem fb0 (k : Nat) : fieldAddr? cx 136 (.ptr k 0) 0 = some (.ptr k 0) := fieldAddr_ptr (m := 5) f136_0 s41
theorem fb1 (k : Nat) : fieldAddr? cx 136 (.ptr k 0) 1 = some (.ptr k 6) := fieldAddr_ptr (m := 0) f136_1 s25
def rwE := And.intro @opW_recover <| And.intro @recW_pan <| And.intro @recW_ret <| And.intro @opW_defer @deferW_fn
def rwF := And.intro @opD_nilCheck <| And.intro @nilW_ptr <| And.intro @opD_assert <| And.intro @opD_face <| And.intro @opD_slice3 <| And.intro @opD_clear <| And.intro @opD_box <| And.intro @boxW_agg <| And.intro @boxW_pagg @opD_makeSlice
def rwU := And.intro @u3 <| And.intro @u4 <| And.intro @u5 <| And.intro @u9 <| And.intro @u22 <| And.intro @u25 <| And.intro @u130 <| And.intro @s3 <| And.intro @s4 <| And.intro @s5 <| And.intro @s9 <| And.intro @s22 <| And.intro @s25 <| And.intro @s29 <| And.intro @s34 <| And.intro @s130 <| And.intro @a3 <| And.intro @a4 <| And.intro @a5 <| And.intro @a9 <| And.intro @a22 <| And.intro @a25 <| And.intro @a29 <| And.intro @a34 @a130
def rwV := And.intro @u38 <| And.intro @u39 <| And.intro @s38 <| And.intro @s39 <| And.intro @a38 <| And.intro @a39 <| And.intro @u109 <| And.intro @u110 <| And.intro @s109 <| And.intro @s110 <| And.intro @s41 <| And.intro @a41 <| And.intro @s79 <| And.intro @a79 <| And.intro @s101 @a101
def rwS := And.intro @rwA @rwE
def rwT := And.intro @rwB <| And.intro @rwF <| And.intro @rwU @rwV
end Go.Proofs

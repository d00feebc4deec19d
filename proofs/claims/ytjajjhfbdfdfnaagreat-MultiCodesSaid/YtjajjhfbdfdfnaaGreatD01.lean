/- What is proved: a block of the digest leaves in its memory what SHA-256 says, by words of 32 bits ('blk_ct'). Conditions: the block has 64 bytes. -/
import Derived.Test.YtjajjhfbdfdfnaaGreatA10
import Derived.Test.YtjajjhfbdfdfnaaGreatB01
import Derived.KernelRfl
import Derived.Test.YtjajjhfbdfdfnaaGreatC01
set_option linter.all false
set_option linter.unusedVariables false
set_option linter.unusedSimpArgs false
set_option linter.unnecessarySimpa false
set_option linter.deprecated false
set_option maxRecDepth 100000
namespace Go.Proofs
open Go Go.Ai
-- (*understory/digest.hasher).block
def sc232r0 : List SOp := [⟨none, .alloc 274, (some 4)⟩]
def sc232r1 : List SOp := [⟨none, .move (.const (.int .i64 0)), (some 22)⟩]
def sc232r2 : List SOp := [⟨none, .binOp .lss 3 (.tmp 22) (.const (.int .i64 64)) 3, (some 23)⟩]
def sc232r3 : List SOp := [⟨none, .move (.tmp 22), (some 24)⟩,
  ⟨none, .assign (.tmp 24), (some 5)⟩]
def sc232r4 : List SOp := [⟨none, .move (.tmp 5), (some 25)⟩,
  ⟨none, .binOp .lss 3 (.tmp 25) (.const (.int .i64 16)) 3, (some 26)⟩]
def sc232r5 : List (SOp × DK) := [(⟨none, .move (.tmp 5), (some 27)⟩, .L 0 0 []),
  (⟨none, .move (.tmp 1), (some 28)⟩, .L 0 0 []),
  (⟨none, .move (.tmp 5), (some 29)⟩, .L 0 0 []),
  (⟨none, .binOp .mul 3 (.const (.int .i64 4)) (.tmp 29) 3, (some 30)⟩, .L 0 0 []),
  (⟨none, .index 9 (.tmp 28) (.tmp 30), (some 31)⟩, .L 0 0 []),
  (⟨none, .convert 5 272 (.tmp 31), (some 32)⟩, .L 0 0 []),
  (⟨none, .binOp .shl 272 (.tmp 32) (.const (.int .u64 24)) 228, (some 33)⟩, .L 0 0 []),
  (⟨none, .move (.tmp 1), (some 34)⟩, .L 0 0 []),
  (⟨none, .move (.tmp 5), (some 35)⟩, .L 0 0 []),
  (⟨none, .binOp .mul 3 (.const (.int .i64 4)) (.tmp 35) 3, (some 36)⟩, .L 0 0 []),
  (⟨none, .binOp .add 3 (.tmp 36) (.const (.int .i64 1)) 3, (some 37)⟩, .L 0 0 []),
  (⟨none, .index 9 (.tmp 34) (.tmp 37), (some 38)⟩, .L 0 0 []),
  (⟨none, .convert 5 272 (.tmp 38), (some 39)⟩, .L 0 0 []),
  (⟨none, .binOp .shl 272 (.tmp 39) (.const (.int .u64 16)) 228, (some 40)⟩, .L 0 0 []),
  (⟨none, .binOp .or 272 (.tmp 33) (.tmp 40) 272, (some 41)⟩, .L 0 0 []),
  (⟨none, .move (.tmp 1), (some 42)⟩, .L 0 0 []),
  (⟨none, .move (.tmp 5), (some 43)⟩, .L 0 0 []),
  (⟨none, .binOp .mul 3 (.const (.int .i64 4)) (.tmp 43) 3, (some 44)⟩, .L 0 0 []),
  (⟨none, .binOp .add 3 (.tmp 44) (.const (.int .i64 2)) 3, (some 45)⟩, .L 0 0 []),
  (⟨none, .index 9 (.tmp 42) (.tmp 45), (some 46)⟩, .L 0 0 []),
  (⟨none, .convert 5 272 (.tmp 46), (some 47)⟩, .L 0 0 []),
  (⟨none, .binOp .shl 272 (.tmp 47) (.const (.int .u64 8)) 228, (some 48)⟩, .L 0 0 []),
  (⟨none, .binOp .or 272 (.tmp 41) (.tmp 48) 272, (some 49)⟩, .L 0 0 []),
  (⟨none, .move (.tmp 1), (some 50)⟩, .L 0 0 []),
  (⟨none, .move (.tmp 5), (some 51)⟩, .L 0 0 []),
  (⟨none, .binOp .mul 3 (.const (.int .i64 4)) (.tmp 51) 3, (some 52)⟩, .L 0 0 []),
  (⟨none, .binOp .add 3 (.tmp 52) (.const (.int .i64 3)) 3, (some 53)⟩, .L 0 0 []),
  (⟨none, .index 9 (.tmp 50) (.tmp 53), (some 54)⟩, .L 0 0 []),
  (⟨none, .convert 5 272 (.tmp 54), (some 55)⟩, .L 0 0 []),
  (⟨none, .binOp .or 272 (.tmp 49) (.tmp 55) 272, (some 56)⟩, .L 0 0 []),
  (⟨none, .indexAddr 274 (.tmp 4) (.tmp 27), (some 57)⟩, .L 0 0 []),
  (⟨none, .store 272 (.tmp 57) (.tmp 56), none⟩, .A [27, 28, 29, 30, 31, 32, 33, 34, 35, 36, 37, 38, 39, 40, 41, 42, 43, 44, 45, 46, 47, 48, 49, 50, 51, 52, 53, 54, 55, 56, 57] [])]
def sc232d5 : SC := .draw sc232r5
theorem sc232d5_x {o rd Q t h d r} : xC cx o rd sc232d5 Q t h d r = xDraw cx o rd Q sc232r5 0 [h] [] [] t h d r := xC_draw (by kernel_rfl)
def sc232r6 : List (SOp × DK) := [(⟨none, .move (.tmp 5), (some 58)⟩, .L 0 0 []),
  (⟨none, .binOp .sub 3 (.tmp 58) (.const (.int .i64 15)) 3, (some 59)⟩, .L 0 0 []),
  (⟨none, .indexAddr 274 (.tmp 4) (.tmp 59), (some 60)⟩, .L 0 0 []),
  (⟨none, .load 272 (.tmp 60), (some 61)⟩, .L 0 0 []),
  (⟨none, .move (.tmp 5), (some 62)⟩, .L 0 0 []),
  (⟨none, .binOp .sub 3 (.tmp 62) (.const (.int .i64 2)) 3, (some 63)⟩, .L 0 0 []),
  (⟨none, .indexAddr 274 (.tmp 4) (.tmp 63), (some 64)⟩, .L 0 0 []),
  (⟨none, .load 272 (.tmp 64), (some 65)⟩, .L 0 0 []),
  (⟨none, .assign (.tmp 61), (some 6)⟩, .L 0 0 []),
  (⟨none, .assign (.tmp 65), (some 7)⟩, .L 0 0 [])]
def sc232d6 : SC := .draw sc232r6
theorem sc232d6_x {o rd Q t h d r} : xC cx o rd sc232d6 Q t h d r = xDraw cx o rd Q sc232r6 0 [h] [] [] t h d r := xC_draw (by kernel_rfl)
def sc232r7 : List SOp := [⟨none, .move (.tmp 6), (some 66)⟩,
  ⟨none, .call { callee := .value (.func 260), args := #[(.tmp 66), (.const (.int .i64 (-7)))], argTypes := #[272, 3] }, (some 67)⟩,
  ⟨none, .move (.tmp 6), (some 68)⟩,
  ⟨none, .call { callee := .value (.func 260), args := #[(.tmp 68), (.const (.int .i64 (-18)))], argTypes := #[272, 3] }, (some 69)⟩,
  ⟨none, .binOp .xor 272 (.tmp 67) (.tmp 69) 272, (some 70)⟩,
  ⟨none, .move (.tmp 6), (some 71)⟩,
  ⟨none, .binOp .shr 272 (.tmp 71) (.const (.int .u64 3)) 228, (some 72)⟩,
  ⟨none, .binOp .xor 272 (.tmp 70) (.tmp 72) 272, (some 73)⟩,
  ⟨none, .assign (.tmp 73), (some 8)⟩]
def sc232r8 : List SOp := [⟨none, .move (.tmp 7), (some 74)⟩,
  ⟨none, .call { callee := .value (.func 260), args := #[(.tmp 74), (.const (.int .i64 (-17)))], argTypes := #[272, 3] }, (some 75)⟩,
  ⟨none, .move (.tmp 7), (some 76)⟩,
  ⟨none, .call { callee := .value (.func 260), args := #[(.tmp 76), (.const (.int .i64 (-19)))], argTypes := #[272, 3] }, (some 77)⟩,
  ⟨none, .binOp .xor 272 (.tmp 75) (.tmp 77) 272, (some 78)⟩,
  ⟨none, .move (.tmp 7), (some 79)⟩,
  ⟨none, .binOp .shr 272 (.tmp 79) (.const (.int .u64 10)) 228, (some 80)⟩,
  ⟨none, .binOp .xor 272 (.tmp 78) (.tmp 80) 272, (some 81)⟩,
  ⟨none, .assign (.tmp 81), (some 9)⟩]
def sc232r9 : List (SOp × DK) := [(⟨none, .move (.tmp 5), (some 82)⟩, .L 0 0 []),
  (⟨none, .move (.tmp 5), (some 83)⟩, .L 0 0 []),
  (⟨none, .binOp .sub 3 (.tmp 83) (.const (.int .i64 16)) 3, (some 84)⟩, .L 0 0 []),
  (⟨none, .indexAddr 274 (.tmp 4) (.tmp 84), (some 85)⟩, .L 0 0 []),
  (⟨none, .load 272 (.tmp 85), (some 86)⟩, .L 0 0 []),
  (⟨none, .move (.tmp 8), (some 87)⟩, .L 0 0 []),
  (⟨none, .binOp .add 272 (.tmp 86) (.tmp 87) 272, (some 88)⟩, .L 0 0 []),
  (⟨none, .move (.tmp 5), (some 89)⟩, .L 0 0 []),
  (⟨none, .binOp .sub 3 (.tmp 89) (.const (.int .i64 7)) 3, (some 90)⟩, .L 0 0 []),
  (⟨none, .indexAddr 274 (.tmp 4) (.tmp 90), (some 91)⟩, .L 0 0 []),
  (⟨none, .load 272 (.tmp 91), (some 92)⟩, .L 0 0 []),
  (⟨none, .binOp .add 272 (.tmp 88) (.tmp 92) 272, (some 93)⟩, .L 0 0 []),
  (⟨none, .move (.tmp 9), (some 94)⟩, .L 0 0 []),
  (⟨none, .binOp .add 272 (.tmp 93) (.tmp 94) 272, (some 95)⟩, .L 0 0 []),
  (⟨none, .indexAddr 274 (.tmp 4) (.tmp 82), (some 96)⟩, .L 0 0 []),
  (⟨none, .store 272 (.tmp 96) (.tmp 95), none⟩, .A [82, 83, 84, 85, 86, 87, 88, 89, 90, 91, 92, 93, 94, 95, 96] [])]
def sc232d9 : SC := .draw sc232r9
theorem sc232d9_x {o rd Q t h d r} : xC cx o rd sc232d9 Q t h d r = xDraw cx o rd Q sc232r9 0 [h] [] [] t h d r := xC_draw (by kernel_rfl)
def sc232r10 : List SOp := [⟨none, .binOp .add 3 (.tmp 22) (.const (.int .i64 1)) 3, (some 97)⟩,
  ⟨none, .move (.tmp 97), (some 22)⟩]
def sc232l11 : SC := (.seq (.reg sc232r2) (.seq (.cond (.tmp 23) .skip (.exit 0)) (.seq (.block 1 (.seq (.reg sc232r3) (.seq (.seq (.reg sc232r4) (.cond (.tmp 26) (.seq sc232d5 (.exit 1)) .skip)) (.seq sc232d6 (.seq (.reg sc232r7) (.seq (.reg sc232r8) sc232d9)))))) (.reg sc232r10))))
def sc232r12 : List SOp := [⟨none, .move (.tmp 0), (some 98)⟩,
  ⟨none, .nilCheck (.tmp 98), (some 99)⟩,
  ⟨none, .fieldAddr 281 (.tmp 99) 0, (some 100)⟩,
  ⟨none, .fieldAddr 279 (.tmp 100) 0, (some 101)⟩,
  ⟨none, .load 273 (.tmp 101), (some 102)⟩,
  ⟨none, .alloc 273, (some 10)⟩,
  ⟨none, .store 273 (.tmp 10) (.tmp 102), none⟩]
def sc232r13 : List SOp := [⟨none, .move (.const (.int .i64 0)), (some 103)⟩]
def sc232r14 : List SOp := [⟨none, .binOp .lss 3 (.tmp 103) (.const (.int .i64 64)) 3, (some 104)⟩]
def sc232r15 : List SOp := [⟨none, .move (.tmp 103), (some 105)⟩,
  ⟨none, .assign (.tmp 105), (some 11)⟩]
def sc232r16 : List (SOp × DK) := [(⟨none, .indexAddr 273 (.tmp 10) (.const (.int .i64 0)), (some 106)⟩, .L 0 0 []),
  (⟨none, .load 272 (.tmp 106), (some 107)⟩, .L 0 0 []),
  (⟨none, .indexAddr 273 (.tmp 10) (.const (.int .i64 1)), (some 108)⟩, .L 0 0 []),
  (⟨none, .load 272 (.tmp 108), (some 109)⟩, .L 0 0 []),
  (⟨none, .indexAddr 273 (.tmp 10) (.const (.int .i64 2)), (some 110)⟩, .L 0 0 []),
  (⟨none, .load 272 (.tmp 110), (some 111)⟩, .L 0 0 []),
  (⟨none, .assign (.tmp 107), (some 12)⟩, .L 0 0 []),
  (⟨none, .assign (.tmp 109), (some 13)⟩, .L 0 0 []),
  (⟨none, .assign (.tmp 111), (some 14)⟩, .L 0 0 [])]
def sc232d16 : SC := .draw sc232r16
theorem sc232d16_x {o rd Q t h d r} : xC cx o rd sc232d16 Q t h d r = xDraw cx o rd Q sc232r16 0 [h] [] [] t h d r := xC_draw (by kernel_rfl)
def sc232r17 : List (SOp × DK) := [(⟨none, .indexAddr 273 (.tmp 10) (.const (.int .i64 4)), (some 112)⟩, .L 0 0 []),
  (⟨none, .load 272 (.tmp 112), (some 113)⟩, .L 0 0 []),
  (⟨none, .indexAddr 273 (.tmp 10) (.const (.int .i64 5)), (some 114)⟩, .L 0 0 []),
  (⟨none, .load 272 (.tmp 114), (some 115)⟩, .L 0 0 []),
  (⟨none, .indexAddr 273 (.tmp 10) (.const (.int .i64 6)), (some 116)⟩, .L 0 0 []),
  (⟨none, .load 272 (.tmp 116), (some 117)⟩, .L 0 0 []),
  (⟨none, .assign (.tmp 113), (some 15)⟩, .L 0 0 []),
  (⟨none, .assign (.tmp 115), (some 16)⟩, .L 0 0 []),
  (⟨none, .assign (.tmp 117), (some 17)⟩, .L 0 0 [])]
def sc232d17 : SC := .draw sc232r17
theorem sc232d17_x {o rd Q t h d r} : xC cx o rd sc232d17 Q t h d r = xDraw cx o rd Q sc232r17 0 [h] [] [] t h d r := xC_draw (by kernel_rfl)
def sc232r18 : List (SOp × DK) := [(⟨none, .indexAddr 273 (.tmp 10) (.const (.int .i64 7)), (some 118)⟩, .L 0 3 []),
  (⟨none, .load 272 (.tmp 118), (some 119)⟩, .L 0 3 []),
  (⟨none, .move (.tmp 15), (some 120)⟩, .L 0 0 []),
  (⟨none, .call { callee := .value (.func 260), args := #[(.tmp 120), (.const (.int .i64 (-6)))], argTypes := #[272, 3] }, (some 121)⟩, .A [118, 119, 120, 121, 122, 125, 129, 130, 131, 132, 133, 134, 135, 136, 138, 139, 140, 141, 142, 143, 145, 146, 147] [118, 119, 122, 125, 129, 130, 131, 132, 133, 134, 135, 136, 138, 139, 140, 141, 142, 143, 145, 146, 147]),
  (⟨none, .move (.tmp 15), (some 122)⟩, .L 0 1 []),
  (⟨none, .call { callee := .value (.func 260), args := #[(.tmp 122), (.const (.int .i64 (-11)))], argTypes := #[272, 3] }, (some 123)⟩, .A [118, 119, 120, 121, 122, 123, 125, 129, 130, 131, 132, 133, 134, 135, 136, 138, 139, 140, 141, 142, 143, 145, 146, 147] [118, 119, 125, 129, 130, 131, 132, 133, 134, 135, 136, 138, 139, 140, 141, 142, 143, 145, 146, 147]),
  (⟨none, .binOp .xor 272 (.tmp 121) (.tmp 123) 272, (some 124)⟩, .L 2 3 []),
  (⟨none, .move (.tmp 15), (some 125)⟩, .L 0 2 []),
  (⟨none, .call { callee := .value (.func 260), args := #[(.tmp 125), (.const (.int .i64 (-25)))], argTypes := #[272, 3] }, (some 126)⟩, .A [118, 119, 120, 121, 122, 123, 124, 125, 126, 129, 130, 131, 132, 133, 134, 135, 136, 138, 139, 140, 141, 142, 143, 145, 146, 147] [118, 119, 124, 129, 130, 131, 132, 133, 134, 135, 136, 138, 139, 140, 141, 142, 143, 145, 146, 147]),
  (⟨none, .binOp .xor 272 (.tmp 124) (.tmp 126) 272, (some 127)⟩, .L 3 3 []),
  (⟨none, .binOp .add 272 (.tmp 119) (.tmp 127) 272, (some 128)⟩, .L 3 3 []),
  (⟨none, .move (.tmp 15), (some 129)⟩, .L 0 3 []),
  (⟨none, .move (.tmp 16), (some 130)⟩, .L 0 3 []),
  (⟨none, .binOp .and 272 (.tmp 129) (.tmp 130) 272, (some 131)⟩, .L 0 3 []),
  (⟨none, .move (.tmp 15), (some 132)⟩, .L 0 3 []),
  (⟨none, .unOp .xor 272 (.tmp 132), (some 133)⟩, .L 0 3 []),
  (⟨none, .move (.tmp 17), (some 134)⟩, .L 0 3 []),
  (⟨none, .binOp .and 272 (.tmp 133) (.tmp 134) 272, (some 135)⟩, .L 0 3 []),
  (⟨none, .binOp .xor 272 (.tmp 131) (.tmp 135) 272, (some 136)⟩, .L 0 3 []),
  (⟨none, .binOp .add 272 (.tmp 128) (.tmp 136) 272, (some 137)⟩, .L 3 3 []),
  (⟨none, .move (.tmp 0), (some 138)⟩, .L 0 3 []),
  (⟨none, .move (.tmp 11), (some 139)⟩, .L 0 3 []),
  (⟨none, .nilCheck (.tmp 138), (some 140)⟩, .L 0 3 []),
  (⟨none, .fieldAddr 281 (.tmp 140) 1, (some 141)⟩, .L 0 3 []),
  (⟨none, .indexAddr 274 (.tmp 141) (.tmp 139), (some 142)⟩, .L 0 3 []),
  (⟨none, .load 272 (.tmp 142), (some 143)⟩, .L 0 3 []),
  (⟨none, .binOp .add 272 (.tmp 137) (.tmp 143) 272, (some 144)⟩, .L 3 3 []),
  (⟨none, .move (.tmp 11), (some 145)⟩, .L 0 3 []),
  (⟨none, .indexAddr 274 (.tmp 4) (.tmp 145), (some 146)⟩, .L 0 3 []),
  (⟨none, .load 272 (.tmp 146), (some 147)⟩, .L 0 3 []),
  (⟨none, .binOp .add 272 (.tmp 144) (.tmp 147) 272, (some 148)⟩, .L 3 3 []),
  (⟨none, .assign (.tmp 148), (some 18)⟩, .L 3 3 [])]
def sc232d18 : SC := .draw sc232r18
theorem sc232d18_x {o rd Q t h d r} : xC cx o rd sc232d18 Q t h d r = xDraw cx o rd Q sc232r18 0 [h] [] [] t h d r := xC_draw (by kernel_rfl)
def sc232r19 : List SOp := [⟨none, .move (.tmp 12), (some 149)⟩,
  ⟨none, .call { callee := .value (.func 260), args := #[(.tmp 149), (.const (.int .i64 (-2)))], argTypes := #[272, 3] }, (some 150)⟩,
  ⟨none, .move (.tmp 12), (some 151)⟩,
  ⟨none, .call { callee := .value (.func 260), args := #[(.tmp 151), (.const (.int .i64 (-13)))], argTypes := #[272, 3] }, (some 152)⟩,
  ⟨none, .binOp .xor 272 (.tmp 150) (.tmp 152) 272, (some 153)⟩,
  ⟨none, .move (.tmp 12), (some 154)⟩,
  ⟨none, .call { callee := .value (.func 260), args := #[(.tmp 154), (.const (.int .i64 (-22)))], argTypes := #[272, 3] }, (some 155)⟩,
  ⟨none, .binOp .xor 272 (.tmp 153) (.tmp 155) 272, (some 156)⟩,
  ⟨none, .move (.tmp 12), (some 157)⟩,
  ⟨none, .move (.tmp 13), (some 158)⟩,
  ⟨none, .binOp .and 272 (.tmp 157) (.tmp 158) 272, (some 159)⟩,
  ⟨none, .move (.tmp 12), (some 160)⟩,
  ⟨none, .move (.tmp 14), (some 161)⟩,
  ⟨none, .binOp .and 272 (.tmp 160) (.tmp 161) 272, (some 162)⟩,
  ⟨none, .binOp .xor 272 (.tmp 159) (.tmp 162) 272, (some 163)⟩,
  ⟨none, .move (.tmp 13), (some 164)⟩,
  ⟨none, .move (.tmp 14), (some 165)⟩,
  ⟨none, .binOp .and 272 (.tmp 164) (.tmp 165) 272, (some 166)⟩,
  ⟨none, .binOp .xor 272 (.tmp 163) (.tmp 166) 272, (some 167)⟩,
  ⟨none, .binOp .add 272 (.tmp 156) (.tmp 167) 272, (some 168)⟩,
  ⟨none, .assign (.tmp 168), (some 19)⟩]
def sc232r20 : List SOp := [⟨none, .move (.tmp 18), (some 169)⟩,
  ⟨none, .move (.tmp 19), (some 170)⟩,
  ⟨none, .binOp .add 272 (.tmp 169) (.tmp 170) 272, (some 171)⟩,
  ⟨none, .move (.tmp 12), (some 172)⟩,
  ⟨none, .move (.tmp 13), (some 173)⟩,
  ⟨none, .move (.tmp 14), (some 174)⟩,
  ⟨none, .indexAddr 273 (.tmp 10) (.const (.int .i64 3)), (some 175)⟩,
  ⟨none, .load 272 (.tmp 175), (some 176)⟩,
  ⟨none, .move (.tmp 18), (some 177)⟩,
  ⟨none, .binOp .add 272 (.tmp 176) (.tmp 177) 272, (some 178)⟩,
  ⟨none, .move (.tmp 15), (some 179)⟩,
  ⟨none, .move (.tmp 16), (some 180)⟩,
  ⟨none, .move (.tmp 17), (some 181)⟩,
  ⟨none, .build 273 #[(0, (.tmp 171)), (1, (.tmp 172)), (2, (.tmp 173)), (3, (.tmp 174)), (4, (.tmp 178)), (5, (.tmp 179)), (6, (.tmp 180)), (7, (.tmp 181))], (some 182)⟩,
  ⟨none, .store 273 (.tmp 10) (.tmp 182), none⟩]
def sc232r21 : List SOp := [⟨none, .binOp .add 3 (.tmp 103) (.const (.int .i64 1)) 3, (some 183)⟩,
  ⟨none, .move (.tmp 183), (some 103)⟩]
def sc232l22 : SC := (.seq (.reg sc232r14) (.seq (.cond (.tmp 104) .skip (.exit 2)) (.seq (.block 3 (.seq (.reg sc232r15) (.seq sc232d16 (.seq sc232d17 (.seq sc232d18 (.seq (.reg sc232r19) (.reg sc232r20))))))) (.reg sc232r21))))
def sc232r23 : List SOp := [⟨none, .load 273 (.tmp 10), (some 184)⟩,
  ⟨none, .move (.const (.int .i64 0)), (some 185)⟩]
def sc232r24 : List SOp := [⟨none, .binOp .lss 3 (.tmp 185) (.const (.int .i64 8)) 3, (some 186)⟩]
def sc232r25 : List SOp := [⟨none, .move (.tmp 185), (some 187)⟩,
  ⟨none, .index 273 (.tmp 184) (.tmp 185), (some 188)⟩,
  ⟨none, .assign (.tmp 187), (some 20)⟩,
  ⟨none, .assign (.tmp 188), (some 21)⟩]
def sc232r26 : List (SOp × DK) := [(⟨none, .move (.tmp 0), (some 189)⟩, .L 0 0 []),
  (⟨none, .move (.tmp 20), (some 190)⟩, .L 0 0 []),
  (⟨none, .nilCheck (.tmp 189), (some 191)⟩, .L 0 0 []),
  (⟨none, .fieldAddr 281 (.tmp 191) 0, (some 192)⟩, .L 0 0 []),
  (⟨none, .fieldAddr 279 (.tmp 192) 0, (some 193)⟩, .L 0 0 []),
  (⟨none, .indexAddr 273 (.tmp 193) (.tmp 190), (some 194)⟩, .L 0 0 []),
  (⟨none, .load 272 (.tmp 194), (some 195)⟩, .L 0 0 []),
  (⟨none, .move (.tmp 21), (some 196)⟩, .L 0 0 []),
  (⟨none, .binOp .add 272 (.tmp 195) (.tmp 196) 272, (some 197)⟩, .L 0 0 []),
  (⟨none, .nilCheck (.tmp 189), (some 198)⟩, .L 0 0 []),
  (⟨none, .fieldAddr 281 (.tmp 198) 0, (some 199)⟩, .L 0 0 []),
  (⟨none, .fieldAddr 279 (.tmp 199) 0, (some 200)⟩, .L 0 0 []),
  (⟨none, .indexAddr 273 (.tmp 200) (.tmp 190), (some 201)⟩, .L 0 0 []),
  (⟨none, .store 272 (.tmp 201) (.tmp 197), none⟩, .A [189, 190, 191, 192, 193, 194, 195, 196, 197, 198, 199, 200, 201] [])]
def sc232d26 : SC := .draw sc232r26
theorem sc232d26_x {o rd Q t h d r} : xC cx o rd sc232d26 Q t h d r = xDraw cx o rd Q sc232r26 0 [h] [] [] t h d r := xC_draw (by kernel_rfl)
def sc232r27 : List SOp := [⟨none, .binOp .add 3 (.tmp 185) (.const (.int .i64 1)) 3, (some 202)⟩,
  ⟨none, .move (.tmp 202), (some 185)⟩]
def sc232l28 : SC := (.seq (.reg sc232r24) (.seq (.cond (.tmp 186) .skip (.exit 4)) (.seq (.block 5 (.seq (.reg sc232r25) sc232d26)) (.reg sc232r27))))
def sc232 : SC := (.seq (.reg sc232r0) (.seq (.seq (.reg sc232r1) (.block 0 (.loop sc232l11))) (.seq (.reg sc232r12) (.seq (.seq (.reg sc232r13) (.block 2 (.loop sc232l22))) (.seq (.reg sc232r23) (.block 4 (.loop sc232l28)))))))
theorem sc232_ok : Tryz.f232.body.map tr = some sc232 := by kernel_rfl
theorem fn232 : cx.fn 232 = some Tryz.f232 := by kernel_rfl
theorem ext232 : cx.ext 232 = none := by kernel_rfl
theorem sc232_dst : okS 203 sc232 = true := by kernel_rfl
theorem ct232 {o args h P} (ho : o 232 args h = none) (ha : Nat.ble args.length 203 = true) (hw : xC cx o none sc232 (endP cx [] P) (argT args 0 .lf) h [] none) : Ct cx o (.fn 232 args) h P :=
  ct_sc fn232 sc232_ok rfl rfl ho ha sc232_dst hw
-- math/bits.RotateLeft32
def sc260r0 : List SOp := [⟨none, .assign (.const (.int .u32 0)), (some 4)⟩]
def sc260r1 : List SOp := [⟨none, .move (.tmp 1), (some 6)⟩,
  ⟨none, .convert 3 228 (.tmp 6), (some 7)⟩,
  ⟨none, .binOp .and 228 (.tmp 7) (.const (.int .u64 31)) 228, (some 8)⟩,
  ⟨none, .assign (.tmp 8), (some 5)⟩]
def sc260r2 : List SOp := [⟨none, .move (.tmp 0), (some 9)⟩,
  ⟨none, .move (.tmp 5), (some 10)⟩,
  ⟨none, .binOp .shl 272 (.tmp 9) (.tmp 10) 228, (some 11)⟩,
  ⟨none, .move (.tmp 0), (some 12)⟩,
  ⟨none, .move (.tmp 5), (some 13)⟩,
  ⟨none, .binOp .sub 228 (.const (.int .u64 32)) (.tmp 13) 228, (some 14)⟩,
  ⟨none, .binOp .shr 272 (.tmp 12) (.tmp 14) 228, (some 15)⟩,
  ⟨none, .binOp .or 272 (.tmp 11) (.tmp 15) 272, (some 16)⟩,
  ⟨none, .assign (.tmp 16), (some 4)⟩]
def sc260 : SC := (.seq (.reg sc260r0) (.seq (.reg sc260r1) (.seq (.reg sc260r2) .ret)))
theorem sc260_ok : Tryz.f260.body.map tr = some sc260 := by kernel_rfl
theorem fn260 : cx.fn 260 = some Tryz.f260 := by kernel_rfl
theorem ext260 : cx.ext 260 = none := by kernel_rfl
theorem sc260_dst : okS 17 sc260 = true := by kernel_rfl
theorem ct260 {o args h P} (ho : o 260 args h = none) (ha : Nat.ble args.length 17 = true) (hw : xC cx o none sc260 (endP cx [.tmp 4] P) (argT args 0 .lf) h [] none) : Ct cx o (.fn 260 args) h P :=
  ct_sc fn260 sc260_ok rfl rfl ho ha sc260_dst hw
end Go.Proofs
set_option maxRecDepth 100000
namespace Go.Proofs
open Go Go.Ai

theorem u228 : cx.under 228 = some (.int .u64) := by kernel_rfl
theorem s228 : sizeOf? cx 228 = some 1 := by kernel_rfl
theorem a228 : aggT? cx 228 = some false := by kernel_rfl
theorem u272 : cx.under 272 = some (.int .u32) := by kernel_rfl
theorem s272 : sizeOf? cx 272 = some 1 := by kernel_rfl
theorem a272 : aggT? cx 272 = some false := by kernel_rfl
theorem u273 : cx.under 273 = some (.array 8 272) := by kernel_rfl
theorem s273 : sizeOf? cx 273 = some 8 := by kernel_rfl
theorem a273 : aggT? cx 273 = some true := by kernel_rfl
theorem u274 : cx.under 274 = some (.array 64 272) := by kernel_rfl
theorem s274 : sizeOf? cx 274 = some 64 := by kernel_rfl
theorem a274 : aggT? cx 274 = some true := by kernel_rfl
theorem s279 : sizeOf? cx 279 = some 10 := by kernel_rfl
theorem a279 : aggT? cx 279 = some true := by kernel_rfl
theorem f279_0 : (fieldOf cx 279 0).map (fun f => (f.type, f.offset)) = some (273, 0) := by kernel_rfl
theorem f279_1 : (fieldOf cx 279 1).map (fun f => (f.type, f.offset)) = some (9, 8) := by kernel_rfl
theorem f279_2 : (fieldOf cx 279 2).map (fun f => (f.type, f.offset)) = some (3, 9) := by kernel_rfl
theorem s281 : sizeOf? cx 281 = some 74 := by kernel_rfl
theorem a281 : aggT? cx 281 = some true := by kernel_rfl
theorem f281_0 : (fieldOf cx 281 0).map (fun f => (f.type, f.offset)) = some (279, 0) := by kernel_rfl
theorem f281_1 : (fieldOf cx 281 1).map (fun f => (f.type, f.offset)) = some (274, 10) := by kernel_rfl
end Go.Proofs
set_option maxRecDepth 100000
namespace Go.Proofs
open Go Go.Ai

def o0 : Orc := fun _ _ _ => none

theorem z273 : zero? cx 273 = some (.agg (up (List.replicate 8 0))) := by kernel_rfl
theorem z274 : zero? cx 274 = some (.agg (up (List.replicate 64 0))) := by kernel_rfl

theorem rot260 {x k : Int} {s : Nat} (hs : an64 (IntKind.wrap .u64 k) 31 = (s : Int)) (h2 : IntKind.wrap .u64 (32 - (s : Int)) = ((32 - s : Nat) : Int)) (h32 : s ≤ 32) :
    Ct cx o0 (.fn 260 [.p (.int .u32 x), .p (.int .i64 k)]) [] (fun e _ => e = .ret (.p (.int .u32 (rot x s)))) := by
  refine ct260 rfl rfl ?_
  have hcv : ∀ hh, conv3 cx hh 3 228 (.p (.int .i64 k)) = .w (.p (.int .u64 (IntKind.wrap .u64 k))) := fun hh => conv_int u3 u228
  simp only [sc260, sc260r0, sc260r1, sc260r2, ↓xC_skip, ↓xC_reg, ↓xC_seq, ↓seqP_n, ↓seqP_ret, ↓seqP_pan, ↓seqP_exit, ↓xC_cond, ↓condW_true, ↓condW_false, ↓xC_block, ↓blockP_n, ↓blockP_ret, ↓blockP_pan, ↓blockP_exit, ↓loopP_n, ↓loopP_ret, ↓loopP_pan, ↓loopP_exit, ↓xC_exit, ↓xC_ret, ↓xOps_nil, ↓xOps_cons, ↓xOps_guard, ↓gW_tt, ↓gW_tf, ↓gW_ft, ↓gW_ff, ↓gW_un, ↓opW_w, ↓opW_ws, ↓opW_wn, ↓opW_wh, ↓opW_value, ↓opW_panic, put_some, put_none, target_fn, ev_tmp, ev_func, ev_int, ev_bool, ev_str, ev_nils, ev_nilp, ev_nili, ev_nilf, evs_nil, evs_cons, evp_nil, evp_cons, evo_none, evo_some, opD_move, opD_assign, opD_pick, pickW_true, pickW_false, pickW_bool, opD_bin, opD_not, opD_conv, opD_load, opD_store, opD_indexAddr, opD_index, opD_fieldAddr, opD_field, opD_extract, opD_len', len_str, len_nils, len_vec, len_sl, opD_alloc, opD_append', opD_buildSlice, opD_build, opD_slice', ofO_some, lss_i, leq_i, gtr_i, geq_i, eql_i, neq_i, add_i, sub_i, mul_i, not_b, eql_s, neq_s, lss_s, leq_s, end_ret, end_n, end_pan, Tm.get_set, argT, Nat.reduceEqDiff, Nat.reduceAdd, if_true, if_false, cond_true, cond_false, Bool.true_eq_false, Bool.false_eq_true, Bool.not_true, Bool.not_false, reduceCtorEq, List.toList_toArray, Nat.reduceLT, results?, vals, ite_true, ite_false, hcv, band_w, hs, shl_u h32, h2, shr_u (show 32 - s ≤ 32 by omega), bor_u]
  rfl
theorem call260 {x k : Int} {s : Nat} (hs : an64 (IntKind.wrap .u64 k) 31 = (s : Int)) (h2 : IntKind.wrap .u64 (32 - (s : Int)) = ((32 - s : Nat) : Int)) (h32 : s ≤ 32) {dst t h d r K Q} :
    callW cx o0 dst t h d r (some (.fn 260 [.p (.int .u32 x), .p (.int .i64 k)])) K Q = K (put dst (.p (.int .u32 (rot x s))) t) h d r :=
  callW_ret ext260 (cs_p (f := 260) (ps := [.int .u32 x, .int .i64 k]) rfl (rot260 hs h2 h32))
section
variable {x : Int} {dst : Option Tmp} {t : Tm} {h : List Ob} {d : List AD} {r : Option RM} {K : KP} {Q : Post}
theorem c7 : callW cx o0 dst t h d r (some (.fn 260 [.p (.int .u32 x), .p (.int .i64 (-7))])) K Q = K (put dst (.p (.int .u32 (rot x 25))) t) h d r := call260 (s := 25) (by decide +kernel) (by decide +kernel) (by decide)
theorem c18 : callW cx o0 dst t h d r (some (.fn 260 [.p (.int .u32 x), .p (.int .i64 (-18))])) K Q = K (put dst (.p (.int .u32 (rot x 14))) t) h d r := call260 (s := 14) (by decide +kernel) (by decide +kernel) (by decide)
theorem c17 : callW cx o0 dst t h d r (some (.fn 260 [.p (.int .u32 x), .p (.int .i64 (-17))])) K Q = K (put dst (.p (.int .u32 (rot x 15))) t) h d r := call260 (s := 15) (by decide +kernel) (by decide +kernel) (by decide)
theorem c19 : callW cx o0 dst t h d r (some (.fn 260 [.p (.int .u32 x), .p (.int .i64 (-19))])) K Q = K (put dst (.p (.int .u32 (rot x 13))) t) h d r := call260 (s := 13) (by decide +kernel) (by decide +kernel) (by decide)
theorem c6 : callW cx o0 dst t h d r (some (.fn 260 [.p (.int .u32 x), .p (.int .i64 (-6))])) K Q = K (put dst (.p (.int .u32 (rot x 26))) t) h d r := call260 (s := 26) (by decide +kernel) (by decide +kernel) (by decide)
theorem c11 : callW cx o0 dst t h d r (some (.fn 260 [.p (.int .u32 x), .p (.int .i64 (-11))])) K Q = K (put dst (.p (.int .u32 (rot x 21))) t) h d r := call260 (s := 21) (by decide +kernel) (by decide +kernel) (by decide)
theorem c25 : callW cx o0 dst t h d r (some (.fn 260 [.p (.int .u32 x), .p (.int .i64 (-25))])) K Q = K (put dst (.p (.int .u32 (rot x 7))) t) h d r := call260 (s := 7) (by decide +kernel) (by decide +kernel) (by decide)
theorem c2 : callW cx o0 dst t h d r (some (.fn 260 [.p (.int .u32 x), .p (.int .i64 (-2))])) K Q = K (put dst (.p (.int .u32 (rot x 30))) t) h d r := call260 (s := 30) (by decide +kernel) (by decide +kernel) (by decide)
theorem c13 : callW cx o0 dst t h d r (some (.fn 260 [.p (.int .u32 x), .p (.int .i64 (-13))])) K Q = K (put dst (.p (.int .u32 (rot x 19))) t) h d r := call260 (s := 19) (by decide +kernel) (by decide +kernel) (by decide)
theorem c22 : callW cx o0 dst t h d r (some (.fn 260 [.p (.int .u32 x), .p (.int .i64 (-22))])) K Q = K (put dst (.p (.int .u32 (rot x 10))) t) h d r := call260 (s := 10) (by decide +kernel) (by decide +kernel) (by decide)
end

def byt (b : List UInt8) (i : Nat) : Int := IntKind.wrap .u32 ((b.getD i 0).toNat : Int)
/-- Word i of the schedule. -/
def wrd (b : List UInt8) (w : List Int) (i : Nat) : Int :=
  if i < 16 then orr (orr (orr (sl32 (byt b (4 * i)) 24) (sl32 (byt b (4 * i + 1)) 16)) (sl32 (byt b (4 * i + 2)) 8)) (byt b (4 * i + 3))
  else ad (ad (ad (w.getD (i - 16) 0) (xr (xr (rot (w.getD (i - 15) 0) 25) (rot (w.getD (i - 15) 0) 14)) (sr32 (w.getD (i - 15) 0) 3))) (w.getD (i - 7) 0))
    (xr (xr (rot (w.getD (i - 2) 0) 15) (rot (w.getD (i - 2) 0) 13)) (sr32 (w.getD (i - 2) 0) 10))
def W (b : List UInt8) : Nat → List Int
  | 0 => List.replicate 64 0
  | i + 1 => (W b i).set i (wrd b (W b i) i)
theorem W_len (b i) : (W b i).length = 64 := by
  induction i with
  | zero => rfl
  | succ i ih => unfold W; rw [List.length_set, ih]
def rnd (k w : Int) (v : List Int) : List Int :=
  match v with
  | [a, b, c, d, e, f, g, h] =>
    [ad (ad (ad (ad (ad h (xr (xr (rot e 26) (rot e 21)) (rot e 7))) (xr (an e f) (an (nt e) g))) k) w) (ad (xr (xr (rot a 30) (rot a 19)) (rot a 10)) (xr (xr (an a b) (an a c)) (an b c))), a, b, c,
      ad d (ad (ad (ad (ad h (xr (xr (rot e 26) (rot e 21)) (rot e 7))) (xr (an e f) (an (nt e) g))) k) w), e, f, g]
  | v => v
def V (ks ws v : List Int) : Nat → List Int
  | 0 => v
  | i + 1 => rnd (ks.getD i 0) (ws.getD i 0) (V ks ws v i)
theorem V_len (ks ws v i) (hv : v.length = 8) : (V ks ws v i).length = 8 := by
  induction i with
  | zero => exact hv
  | succ i ih => unfold V rnd; split <;> first | rfl | exact ih
def HH (v h0 : List Int) : Nat → List Int
  | 0 => h0
  | i + 1 => (HH v h0 i).set i (ad ((HH v h0 i).getD i 0) (v.getD i 0))
theorem HH_len (v h0 i) (hh : h0.length = 8) : (HH v h0 i).length = 8 := by
  induction i with
  | zero => exact hh
  | succ i ih => unfold HH; rw [List.length_set, ih]

theorem b273 (a b c d e f g h : Int) : build? cx 273 [(0, .p (.int .u32 a)), (1, .p (.int .u32 b)), (2, .p (.int .u32 c)), (3, .p (.int .u32 d)), (4, .p (.int .u32 e)), (5, .p (.int .u32 f)), (6, .p (.int .u32 g)), (7, .p (.int .u32 h))] = some (.p (.agg (up [a, b, c, d, e, f, g, h]))) := by kernel_rfl

/-- The memory behind a block. -/
def blkEnd (e : TypeId) (b : List UInt8) (H K : List Int) (mid : List AV) : List Ob :=
  [.cells e (us (HH (V K (W b 64) H 64) H 8) ++ (mid ++ us K)), .cells 274 (us (W b 64)), .cells 273 (us (V K (W b 64) H 64))]

theorem ia {n : Nat} {ty : TypeId} {i off : Nat} {j : Nat} (hu : cx.under ty = some (.array n 272)) (hj : j < n) : indexAddr? cx ty (.ptr i off) (.p (.int .i64 (j : Int))) = some (.ptr i (off + j)) := by
  rw [idx_ptr hu s272 (by omega) (by omega), Int.toNat_natCast]

theorem blk_ct {e : TypeId} {b : List UInt8} {H K : List Int} {mid : List AV} (hb : b.length = 64) (hH : H.length = 8) (hK : K.length = 64) (hm : mid.length = 2) :
    Ct cx o0 (.fn 232 [.ptr 0 0, .p (.str b)]) [.cells e (us H ++ (mid ++ us K))] (fun en h' => en = .ret (.tup []) ∧ h' = blkEnd e b H K mid) := by
  refine ct232 rfl rfl ?_
  simp only [sc232, sc232r0, sc232r1, ↓xC_skip, ↓xC_reg, ↓xC_seq, ↓seqP_n, ↓seqP_ret, ↓seqP_pan, ↓seqP_exit, ↓xC_cond, ↓condW_true, ↓condW_false, ↓xC_block, ↓blockP_n, ↓blockP_ret, ↓blockP_pan, ↓blockP_exit, ↓loopP_n, ↓loopP_ret, ↓loopP_pan, ↓loopP_exit, ↓xC_exit, ↓xC_ret, ↓xOps_nil, ↓xOps_cons, ↓xOps_guard, ↓gW_tt, ↓gW_tf, ↓gW_ft, ↓gW_ff, ↓gW_un, ↓opW_w, ↓opW_ws, ↓opW_wn, ↓opW_wh, ↓opW_value, ↓opW_panic, put_some, put_none, target_fn, ev_tmp, ev_func, ev_int, ev_bool, ev_str, ev_nils, ev_nilp, ev_nili, ev_nilf, evs_nil, evs_cons, evp_nil, evp_cons, evo_none, evo_some, opD_move, opD_assign, opD_pick, pickW_true, pickW_false, pickW_bool, opD_bin, opD_not, opD_conv, opD_load, opD_store, opD_indexAddr, opD_index, opD_fieldAddr, opD_field, opD_extract, opD_len', len_str, len_nils, len_vec, len_sl, opD_alloc, opD_append', opD_buildSlice, opD_build, opD_slice', ofO_some, lss_i, leq_i, gtr_i, geq_i, eql_i, neq_i, add_i, sub_i, mul_i, not_b, eql_s, neq_s, lss_s, leq_s, end_ret, end_n, end_pan, Tm.get_set, argT, Nat.reduceEqDiff, Nat.reduceAdd, if_true, if_false, cond_true, cond_false, Bool.true_eq_false, Bool.false_eq_true, Bool.not_true, Bool.not_false, reduceCtorEq, List.toList_toArray, Nat.reduceLT, results?, vals, ite_true, ite_false, z274, cells_up, List.cons_append, List.nil_append, List.length_cons, List.length_nil]
  refine xC_loop (fun n t h' d r => ∃ i : Nat, n = 64 - i ∧ i ≤ 64 ∧ d = [] ∧ r = none ∧ t.get 0 = .ptr 0 0 ∧ t.get 1 = .p (.str b) ∧ t.get 4 = .ptr 1 0 ∧ t.get 22 = .p (.int .i64 (i : Int)) ∧ h' = [.cells e (us H ++ (mid ++ us K)), .cells 274 (us (W b i))]) 64 ?_ ?_
  · refine ⟨0, rfl, by omega, rfl, rfl, ?_⟩
    simp only [↓xC_skip, ↓xC_reg, ↓xC_seq, ↓seqP_n, ↓seqP_ret, ↓seqP_pan, ↓seqP_exit, ↓xC_cond, ↓condW_true, ↓condW_false, ↓xC_block, ↓blockP_n, ↓blockP_ret, ↓blockP_pan, ↓blockP_exit, ↓loopP_n, ↓loopP_ret, ↓loopP_pan, ↓loopP_exit, ↓xC_exit, ↓xC_ret, ↓xOps_nil, ↓xOps_cons, ↓xOps_guard, ↓gW_tt, ↓gW_tf, ↓gW_ft, ↓gW_ff, ↓gW_un, ↓opW_w, ↓opW_ws, ↓opW_wn, ↓opW_wh, ↓opW_value, ↓opW_panic, put_some, put_none, target_fn, ev_tmp, ev_func, ev_int, ev_bool, ev_str, ev_nils, ev_nilp, ev_nili, ev_nilf, evs_nil, evs_cons, evp_nil, evp_cons, evo_none, evo_some, opD_move, opD_assign, opD_pick, pickW_true, pickW_false, pickW_bool, opD_bin, opD_not, opD_conv, opD_load, opD_store, opD_indexAddr, opD_index, opD_fieldAddr, opD_field, opD_extract, opD_len', len_str, len_nils, len_vec, len_sl, opD_alloc, opD_append', opD_buildSlice, opD_build, opD_slice', ofO_some, lss_i, leq_i, gtr_i, geq_i, eql_i, neq_i, add_i, sub_i, mul_i, not_b, eql_s, neq_s, lss_s, leq_s, end_ret, end_n, end_pan, Tm.get_set, argT, Nat.reduceEqDiff, Nat.reduceAdd, if_true, if_false, cond_true, cond_false, Bool.true_eq_false, Bool.false_eq_true, Bool.not_true, Bool.not_false, reduceCtorEq, List.toList_toArray, Nat.reduceLT, results?, vals, ite_true, ite_false, true_and]
    first | rfl | exact ⟨rfl, rfl⟩ | exact ⟨trivial, rfl⟩
  · rintro n t h' d r ⟨i, rfl, hi, rfl, rfl, t0, t1, t4, t22, rfl⟩
    have hw1 : IntKind.wrap .i64 ((i : Int) + 1) = ((i + 1 : Nat) : Int) := by rw [wrap64_id (by omega) (by omega)]; omega
    by_cases hlt : (i : Int) < 64
    · have hiw : i < (W b i).length := by rw [W_len]; omega
      have ai : indexAddr? cx 274 (.ptr 1 0) (.p (.int .i64 (i : Int))) = some (.ptr 1 i) := by rw [ia u274 (by omega), Nat.zero_add]
      have st : ∀ n : Int, store? cx [.cells e (us H ++ (mid ++ us K)), .cells 274 (us (W b i))] 272 (.ptr 1 i) (.p (.int .u32 n)) = .ws undefA 1 (.cells 274 (us ((W b i).set i n))) := fun n => by
        rw [store_one s272 rfl rfl (by rw [us_length]; exact hiw), us_set]
      by_cases h16 : (i : Int) < 16
      · have m4 : IntKind.wrap .i64 (4 * (i : Int)) = ((4 * i : Nat) : Int) := by rw [wrap64_id (by omega) (by omega)]; omega
        have m41 : IntKind.wrap .i64 (((4 * i : Nat) : Int) + 1) = ((4 * i + 1 : Nat) : Int) := by rw [wrap64_id (by omega) (by omega)]; omega
        have m42 : IntKind.wrap .i64 (((4 * i : Nat) : Int) + 2) = ((4 * i + 2 : Nat) : Int) := by rw [wrap64_id (by omega) (by omega)]; omega
        have m43 : IntKind.wrap .i64 (((4 * i : Nat) : Int) + 3) = ((4 * i + 3 : Nat) : Int) := by rw [wrap64_id (by omega) (by omega)]; omega
        have ix : ∀ k : Nat, k < 64 → index? cx 9 (.p (.str b)) (.p (.int .i64 (k : Int))) = some (.p (.int .u8 (b.getD k 0).toNat)) := fun k hk => by
          have := index_str (c := cx) (ty := 9) (s := b) (i := (k : Int)) (j := .i64) u9 (by omega) (by omega)
          rw [this, Int.toNat_natCast]
        have i0 := ix (4 * i) (by omega)
        have i1 := ix (4 * i + 1) (by omega)
        have i2 := ix (4 * i + 2) (by omega)
        have i3 := ix (4 * i + 3) (by omega)
        have cv : ∀ hh k, conv3 cx hh 5 272 (.p (.int .u8 (b.getD k 0).toNat)) = .w (.p (.int .u32 (byt b k))) := fun hh k => conv_int u5 u272
        simp only [sc232l11, sc232r2, sc232r3, sc232r4, sc232d5_x, sc232r5, sc232r10, ↓xC_skip, ↓xC_reg, ↓xC_seq, ↓seqP_n, ↓seqP_ret, ↓seqP_pan, ↓seqP_exit, ↓xC_cond, ↓condW_true, ↓condW_false, ↓xC_block, ↓blockP_n, ↓blockP_ret, ↓blockP_pan, ↓blockP_exit, ↓loopP_n, ↓loopP_ret, ↓loopP_pan, ↓loopP_exit, ↓xC_exit, ↓xC_ret, ↓xOps_nil, ↓xOps_cons, ↓xOps_guard, ↓gW_tt, ↓gW_tf, ↓gW_ft, ↓gW_ff, ↓gW_un, ↓opW_w, ↓opW_ws, ↓opW_wn, ↓opW_wh, ↓opW_value, ↓opW_panic, put_some, put_none, target_fn, ev_tmp, ev_func, ev_int, ev_bool, ev_str, ev_nils, ev_nilp, ev_nili, ev_nilf, evs_nil, evs_cons, evp_nil, evp_cons, evo_none, evo_some, opD_move, opD_assign, opD_pick, pickW_true, pickW_false, pickW_bool, opD_bin, opD_not, opD_conv, opD_load, opD_store, opD_indexAddr, opD_index, opD_fieldAddr, opD_field, opD_extract, opD_len', len_str, len_nils, len_vec, len_sl, opD_alloc, opD_append', opD_buildSlice, opD_build, opD_slice', ofO_some, lss_i, leq_i, gtr_i, geq_i, eql_i, neq_i, add_i, sub_i, mul_i, not_b, eql_s, neq_s, lss_s, leq_s, end_ret, end_n, end_pan, Tm.get_set, argT, Nat.reduceEqDiff, Nat.reduceAdd, if_true, if_false, cond_true, cond_false, Bool.true_eq_false, Bool.false_eq_true, Bool.not_true, Bool.not_false, reduceCtorEq, List.toList_toArray, Nat.reduceLT, results?, vals, ite_true, ite_false, ↓xDraw_nil, ↓xDraw_L, ↓xDraw_A, ↓LW_some, ↓x1_none, ↓x1_guard, blur_nil, blur_cons, slotV_some, toO_w, look_none, look_guard, ↓gL_tt, ↓gL_tf, ↓gL_ft, ↓gL_ff, ↓gL_un, looksSame_nil, looksSame_cons, pendOk_nil, pendOk_cons, List.drop_succ_cons, List.drop_zero, List.take_succ_cons, List.take_zero, List.drop_nil, List.take_nil, Nat.reduceSub, Nat.reduceLeDiff, Nat.lt_irrefl, Nat.sub_self, Nat.sub_zero, Nat.zero_sub, true_and, Bool.and_true, Bool.and_self, Nat.zero_lt_one, Nat.not_lt_zero, Nat.le_refl, Nat.zero_le, Nat.zero_add, t0, t1, t4, t22, hlt, h16, decide_true, m4, m41, m42, m43, i0, i1, i2, i3, cv, shl24, shl16, shl8, bor_u, ai, st, hset2_1, hw1, true_and]
        refine ⟨_, ?_, i + 1, rfl, ?_, ?_⟩
        · omega
        · omega
        · rw [show W b (i + 1) = _ from (show (W b i).set i (wrd b (W b i) i) = _ by unfold wrd; rw [if_pos (show i < 16 by omega)])]
          first | rfl | exact ⟨rfl, rfl⟩ | exact ⟨trivial, rfl⟩
      · have s15 : IntKind.wrap .i64 ((i : Int) - 15) = ((i - 15 : Nat) : Int) := by rw [wrap64_id (by omega) (by omega)]; omega
        have s2 : IntKind.wrap .i64 ((i : Int) - 2) = ((i - 2 : Nat) : Int) := by rw [wrap64_id (by omega) (by omega)]; omega
        have s16 : IntKind.wrap .i64 ((i : Int) - 16) = ((i - 16 : Nat) : Int) := by rw [wrap64_id (by omega) (by omega)]; omega
        have s7 : IntKind.wrap .i64 ((i : Int) - 7) = ((i - 7 : Nat) : Int) := by rw [wrap64_id (by omega) (by omega)]; omega
        have aj : ∀ k : Nat, k < 64 → indexAddr? cx 274 (.ptr 1 0) (.p (.int .i64 (k : Int))) = some (.ptr 1 k) := fun k hk => by rw [ia u274 hk, Nat.zero_add]
        have a15 := aj (i - 15) (by omega)
        have a2 := aj (i - 2) (by omega)
        have a16 := aj (i - 16) (by omega)
        have a7 := aj (i - 7) (by omega)
        have lj : ∀ k : Nat, k < 64 → load? cx [.cells e (us H ++ (mid ++ us K)), .cells 274 (us (W b i))] 272 (.ptr 1 k) = some (.p (.int .u32 ((W b i).getD k 0))) := fun k hk => load_one a272 rfl (us_get (by rw [W_len]; omega))
        have l15 := lj (i - 15) (by omega)
        have l2 := lj (i - 2) (by omega)
        have l16 := lj (i - 16) (by omega)
        have l7 := lj (i - 7) (by omega)
        simp only [sc232l11, sc232r2, sc232r3, sc232r4, sc232d6_x, sc232r6, sc232r7, sc232r8, sc232d9_x, sc232r9, sc232r10, ↓xC_skip, ↓xC_reg, ↓xC_seq, ↓seqP_n, ↓seqP_ret, ↓seqP_pan, ↓seqP_exit, ↓xC_cond, ↓condW_true, ↓condW_false, ↓xC_block, ↓blockP_n, ↓blockP_ret, ↓blockP_pan, ↓blockP_exit, ↓loopP_n, ↓loopP_ret, ↓loopP_pan, ↓loopP_exit, ↓xC_exit, ↓xC_ret, ↓xOps_nil, ↓xOps_cons, ↓xOps_guard, ↓gW_tt, ↓gW_tf, ↓gW_ft, ↓gW_ff, ↓gW_un, ↓opW_w, ↓opW_ws, ↓opW_wn, ↓opW_wh, ↓opW_value, ↓opW_panic, put_some, put_none, target_fn, ev_tmp, ev_func, ev_int, ev_bool, ev_str, ev_nils, ev_nilp, ev_nili, ev_nilf, evs_nil, evs_cons, evp_nil, evp_cons, evo_none, evo_some, opD_move, opD_assign, opD_pick, pickW_true, pickW_false, pickW_bool, opD_bin, opD_not, opD_conv, opD_load, opD_store, opD_indexAddr, opD_index, opD_fieldAddr, opD_field, opD_extract, opD_len', len_str, len_nils, len_vec, len_sl, opD_alloc, opD_append', opD_buildSlice, opD_build, opD_slice', ofO_some, lss_i, leq_i, gtr_i, geq_i, eql_i, neq_i, add_i, sub_i, mul_i, not_b, eql_s, neq_s, lss_s, leq_s, end_ret, end_n, end_pan, Tm.get_set, argT, Nat.reduceEqDiff, Nat.reduceAdd, if_true, if_false, cond_true, cond_false, Bool.true_eq_false, Bool.false_eq_true, Bool.not_true, Bool.not_false, reduceCtorEq, List.toList_toArray, Nat.reduceLT, results?, vals, ite_true, ite_false, ↓xDraw_nil, ↓xDraw_L, ↓xDraw_A, ↓LW_some, ↓x1_none, ↓x1_guard, blur_nil, blur_cons, slotV_some, toO_w, look_none, look_guard, ↓gL_tt, ↓gL_tf, ↓gL_ft, ↓gL_ff, ↓gL_un, looksSame_nil, looksSame_cons, pendOk_nil, pendOk_cons, List.drop_succ_cons, List.drop_zero, List.take_succ_cons, List.take_zero, List.drop_nil, List.take_nil, Nat.reduceSub, Nat.reduceLeDiff, Nat.lt_irrefl, Nat.sub_self, Nat.sub_zero, Nat.zero_sub, true_and, Bool.and_true, Bool.and_self, Nat.zero_lt_one, Nat.not_lt_zero, Nat.le_refl, Nat.zero_le, Nat.zero_add, t0, t1, t4, t22, hlt, h16, decide_true, decide_false, s15, s2, s16, s7, a15, a2, a16, a7, l15, l2, l16, l7, c7, c18, c17, c19, shr3, shr10, bxor_u, ai, st, hset2_1, hw1, true_and]
        refine ⟨_, ?_, i + 1, rfl, ?_, ?_⟩
        · omega
        · omega
        · rw [show W b (i + 1) = _ from (show (W b i).set i (wrd b (W b i) i) = _ by unfold wrd; rw [if_neg (show ¬i < 16 by omega)])]
          first | rfl | exact ⟨rfl, rfl⟩ | exact ⟨trivial, rfl⟩
    · obtain rfl : i = 64 := by omega
      have ld : load? cx [.cells e (us H ++ (mid ++ us K)), .cells 274 (us (W b 64))] 273 (.ptr 0 0) = some (.p (.agg (up H))) := by
        rw [load_part a273 s273 rfl (by rw [List.length_append, us_length]; omega), List.drop_zero, List.take_left' (by rw [us_length]; exact hH), mkAgg_us]
      have fa : fieldAddr? cx 281 (.ptr 0 0) 0 = some (.ptr 0 0) := fieldAddr_ptr (m := 9) f281_0 s279
      have fb : fieldAddr? cx 279 (.ptr 0 0) 0 = some (.ptr 0 0) := fieldAddr_ptr (m := 7) f279_0 s273
      have fk : fieldAddr? cx 281 (.ptr 0 0) 1 = some (.ptr 0 10) := fieldAddr_ptr (m := 63) f281_1 s274
      have sw : ∀ (v v' : List Int) (x : Ob), v.length = 8 → v'.length = 8 → store? cx [x, .cells 274 (us (W b 64)), .cells 273 (us v)] 273 (.ptr 2 0) (.p (.agg (up v'))) = .ws undefA 2 (.cells 273 (us v')) := fun v v' x hv hv' =>
        store_whole s273 rfl (show _ = some (us v') by rw [us_up]; rfl) (by rw [us_length]; exact hv') (by rw [us_length]; exact hv)
      have sw0 := sw (List.replicate 8 0) H (.cells e (us H ++ (mid ++ us K))) rfl hH
      simp only [sc232l11, sc232r2, sc232r12, sc232r13, ↓xC_skip, ↓xC_reg, ↓xC_seq, ↓seqP_n, ↓seqP_ret, ↓seqP_pan, ↓seqP_exit, ↓xC_cond, ↓condW_true, ↓condW_false, ↓xC_block, ↓blockP_n, ↓blockP_ret, ↓blockP_pan, ↓blockP_exit, ↓loopP_n, ↓loopP_ret, ↓loopP_pan, ↓loopP_exit, ↓xC_exit, ↓xC_ret, ↓xOps_nil, ↓xOps_cons, ↓xOps_guard, ↓gW_tt, ↓gW_tf, ↓gW_ft, ↓gW_ff, ↓gW_un, ↓opW_w, ↓opW_ws, ↓opW_wn, ↓opW_wh, ↓opW_value, ↓opW_panic, put_some, put_none, target_fn, ev_tmp, ev_func, ev_int, ev_bool, ev_str, ev_nils, ev_nilp, ev_nili, ev_nilf, evs_nil, evs_cons, evp_nil, evp_cons, evo_none, evo_some, opD_move, opD_assign, opD_pick, pickW_true, pickW_false, pickW_bool, opD_bin, opD_not, opD_conv, opD_load, opD_store, opD_indexAddr, opD_index, opD_fieldAddr, opD_field, opD_extract, opD_len', len_str, len_nils, len_vec, len_sl, opD_alloc, opD_append', opD_buildSlice, opD_build, opD_slice', ofO_some, lss_i, leq_i, gtr_i, geq_i, eql_i, neq_i, add_i, sub_i, mul_i, not_b, eql_s, neq_s, lss_s, leq_s, end_ret, end_n, end_pan, Tm.get_set, argT, Nat.reduceEqDiff, Nat.reduceAdd, if_true, if_false, cond_true, cond_false, Bool.true_eq_false, Bool.false_eq_true, Bool.not_true, Bool.not_false, reduceCtorEq, List.toList_toArray, Nat.reduceLT, results?, vals, ite_true, ite_false, t0, t1, t4, t22, hlt, decide_false, opD_nilCheck, nilW_ptr, fa, fb, ld, z273, cells_up, List.cons_append, List.nil_append, List.length_cons, List.length_nil, sw0, hset3_2]
      refine xC_loop (fun n t h' d r => ∃ i : Nat, n = 64 - i ∧ i ≤ 64 ∧ d = [] ∧ r = none ∧ t.get 0 = .ptr 0 0 ∧ t.get 4 = .ptr 1 0 ∧ t.get 10 = .ptr 2 0 ∧ t.get 103 = .p (.int .i64 (i : Int)) ∧ h' = [.cells e (us H ++ (mid ++ us K)), .cells 274 (us (W b 64)), .cells 273 (us (V K (W b 64) H i))]) 64 ?_ ?_
      · refine ⟨0, rfl, by omega, rfl, rfl, ?_⟩
        simp only [↓xC_skip, ↓xC_reg, ↓xC_seq, ↓seqP_n, ↓seqP_ret, ↓seqP_pan, ↓seqP_exit, ↓xC_cond, ↓condW_true, ↓condW_false, ↓xC_block, ↓blockP_n, ↓blockP_ret, ↓blockP_pan, ↓blockP_exit, ↓loopP_n, ↓loopP_ret, ↓loopP_pan, ↓loopP_exit, ↓xC_exit, ↓xC_ret, ↓xOps_nil, ↓xOps_cons, ↓xOps_guard, ↓gW_tt, ↓gW_tf, ↓gW_ft, ↓gW_ff, ↓gW_un, ↓opW_w, ↓opW_ws, ↓opW_wn, ↓opW_wh, ↓opW_value, ↓opW_panic, put_some, put_none, target_fn, ev_tmp, ev_func, ev_int, ev_bool, ev_str, ev_nils, ev_nilp, ev_nili, ev_nilf, evs_nil, evs_cons, evp_nil, evp_cons, evo_none, evo_some, opD_move, opD_assign, opD_pick, pickW_true, pickW_false, pickW_bool, opD_bin, opD_not, opD_conv, opD_load, opD_store, opD_indexAddr, opD_index, opD_fieldAddr, opD_field, opD_extract, opD_len', len_str, len_nils, len_vec, len_sl, opD_alloc, opD_append', opD_buildSlice, opD_build, opD_slice', ofO_some, lss_i, leq_i, gtr_i, geq_i, eql_i, neq_i, add_i, sub_i, mul_i, not_b, eql_s, neq_s, lss_s, leq_s, end_ret, end_n, end_pan, Tm.get_set, argT, Nat.reduceEqDiff, Nat.reduceAdd, if_true, if_false, cond_true, cond_false, Bool.true_eq_false, Bool.false_eq_true, Bool.not_true, Bool.not_false, reduceCtorEq, List.toList_toArray, Nat.reduceLT, results?, vals, ite_true, ite_false, true_and, t0, t4]
        first | rfl | exact ⟨rfl, rfl⟩ | exact ⟨trivial, rfl⟩
      · rintro n t h' d r ⟨i, rfl, hi, rfl, rfl, t0, t4, t10, t103, rfl⟩
        have hw1 : IntKind.wrap .i64 ((i : Int) + 1) = ((i + 1 : Nat) : Int) := by rw [wrap64_id (by omega) (by omega)]; omega
        have hV := V_len K (W b 64) H i hH
        by_cases hlt : (i : Int) < 64
        · have hM : ∃ a b' c d e' f g k, V K (W b 64) H i = [a, b', c, d, e', f, g, k] := by
            match hq : V K (W b 64) H i, hV with
            | [a, b', c, d, e', f, g, k], _ => exact ⟨a, b', c, d, e', f, g, k, rfl⟩
          obtain ⟨a, b', c, d, e', f, g, k, hVe⟩ := hM
          rw [hVe]
          have x0 : indexAddr? cx 273 (.ptr 2 0) (.p (.int .i64 0)) = some (.ptr 2 0) := ia (j := 0) u273 (by decide)
          have x1 : indexAddr? cx 273 (.ptr 2 0) (.p (.int .i64 1)) = some (.ptr 2 1) := ia (j := 1) u273 (by decide)
          have x2 : indexAddr? cx 273 (.ptr 2 0) (.p (.int .i64 2)) = some (.ptr 2 2) := ia (j := 2) u273 (by decide)
          have x3 : indexAddr? cx 273 (.ptr 2 0) (.p (.int .i64 3)) = some (.ptr 2 3) := ia (j := 3) u273 (by decide)
          have x4 : indexAddr? cx 273 (.ptr 2 0) (.p (.int .i64 4)) = some (.ptr 2 4) := ia (j := 4) u273 (by decide)
          have x5 : indexAddr? cx 273 (.ptr 2 0) (.p (.int .i64 5)) = some (.ptr 2 5) := ia (j := 5) u273 (by decide)
          have x6 : indexAddr? cx 273 (.ptr 2 0) (.p (.int .i64 6)) = some (.ptr 2 6) := ia (j := 6) u273 (by decide)
          have x7 : indexAddr? cx 273 (.ptr 2 0) (.p (.int .i64 7)) = some (.ptr 2 7) := ia (j := 7) u273 (by decide)
          have l0 : load? cx [.cells e (us H ++ (mid ++ us K)), .cells 274 (us (W b 64)), .cells 273 (us [a, b', c, d, e', f, g, k])] 272 (.ptr 2 0) = some (.p (.int .u32 a)) := load_one a272 rfl rfl
          have l1 : load? cx [.cells e (us H ++ (mid ++ us K)), .cells 274 (us (W b 64)), .cells 273 (us [a, b', c, d, e', f, g, k])] 272 (.ptr 2 1) = some (.p (.int .u32 b')) := load_one a272 rfl rfl
          have l2 : load? cx [.cells e (us H ++ (mid ++ us K)), .cells 274 (us (W b 64)), .cells 273 (us [a, b', c, d, e', f, g, k])] 272 (.ptr 2 2) = some (.p (.int .u32 c)) := load_one a272 rfl rfl
          have l3 : load? cx [.cells e (us H ++ (mid ++ us K)), .cells 274 (us (W b 64)), .cells 273 (us [a, b', c, d, e', f, g, k])] 272 (.ptr 2 3) = some (.p (.int .u32 d)) := load_one a272 rfl rfl
          have l4 : load? cx [.cells e (us H ++ (mid ++ us K)), .cells 274 (us (W b 64)), .cells 273 (us [a, b', c, d, e', f, g, k])] 272 (.ptr 2 4) = some (.p (.int .u32 e')) := load_one a272 rfl rfl
          have l5 : load? cx [.cells e (us H ++ (mid ++ us K)), .cells 274 (us (W b 64)), .cells 273 (us [a, b', c, d, e', f, g, k])] 272 (.ptr 2 5) = some (.p (.int .u32 f)) := load_one a272 rfl rfl
          have l6 : load? cx [.cells e (us H ++ (mid ++ us K)), .cells 274 (us (W b 64)), .cells 273 (us [a, b', c, d, e', f, g, k])] 272 (.ptr 2 6) = some (.p (.int .u32 g)) := load_one a272 rfl rfl
          have l7 : load? cx [.cells e (us H ++ (mid ++ us K)), .cells 274 (us (W b 64)), .cells 273 (us [a, b', c, d, e', f, g, k])] 272 (.ptr 2 7) = some (.p (.int .u32 k)) := load_one a272 rfl rfl
          have aK : indexAddr? cx 274 (.ptr 0 10) (.p (.int .i64 (i : Int))) = some (.ptr 0 (10 + i)) := ia u274 (by omega)
          have lK : load? cx [.cells e (us H ++ (mid ++ us K)), .cells 274 (us (W b 64)), .cells 273 (us [a, b', c, d, e', f, g, k])] 272 (.ptr 0 (10 + i)) = some (.p (.int .u32 (K.getD i 0))) := by
            refine load_one a272 rfl ?_
            rw [List.getElem?_append_right (by rw [us_length]; omega), List.getElem?_append_right (by rw [us_length]; omega), us_length, hH, hm, show 10 + i - 8 - 2 = i by omega]
            exact us_get (by omega)
          have aW : indexAddr? cx 274 (.ptr 1 0) (.p (.int .i64 (i : Int))) = some (.ptr 1 i) := by rw [ia u274 (by omega), Nat.zero_add]
          have lW : load? cx [.cells e (us H ++ (mid ++ us K)), .cells 274 (us (W b 64)), .cells 273 (us [a, b', c, d, e', f, g, k])] 272 (.ptr 1 i) = some (.p (.int .u32 ((W b 64).getD i 0))) := load_one a272 rfl (us_get (by rw [W_len]; omega))
          have sw1 := fun v' hv' => sw [a, b', c, d, e', f, g, k] v' (.cells e (us H ++ (mid ++ us K))) rfl hv'
          have sw2 := fun a1 a2 a3 a4 a5 a6 a7 a8 => sw1 [a1, a2, a3, a4, a5, a6, a7, a8] rfl
          simp only [sc232l22, sc232r14, sc232r15, sc232d16_x, sc232r16, sc232d17_x, sc232r17, sc232d18_x, sc232r18, sc232r19, sc232r20, sc232r21, ↓xC_skip, ↓xC_reg, ↓xC_seq, ↓seqP_n, ↓seqP_ret, ↓seqP_pan, ↓seqP_exit, ↓xC_cond, ↓condW_true, ↓condW_false, ↓xC_block, ↓blockP_n, ↓blockP_ret, ↓blockP_pan, ↓blockP_exit, ↓loopP_n, ↓loopP_ret, ↓loopP_pan, ↓loopP_exit, ↓xC_exit, ↓xC_ret, ↓xOps_nil, ↓xOps_cons, ↓xOps_guard, ↓gW_tt, ↓gW_tf, ↓gW_ft, ↓gW_ff, ↓gW_un, ↓opW_w, ↓opW_ws, ↓opW_wn, ↓opW_wh, ↓opW_value, ↓opW_panic, put_some, put_none, target_fn, ev_tmp, ev_func, ev_int, ev_bool, ev_str, ev_nils, ev_nilp, ev_nili, ev_nilf, evs_nil, evs_cons, evp_nil, evp_cons, evo_none, evo_some, opD_move, opD_assign, opD_pick, pickW_true, pickW_false, pickW_bool, opD_bin, opD_not, opD_conv, opD_load, opD_store, opD_indexAddr, opD_index, opD_fieldAddr, opD_field, opD_extract, opD_len', len_str, len_nils, len_vec, len_sl, opD_alloc, opD_append', opD_buildSlice, opD_build, opD_slice', ofO_some, lss_i, leq_i, gtr_i, geq_i, eql_i, neq_i, add_i, sub_i, mul_i, not_b, eql_s, neq_s, lss_s, leq_s, end_ret, end_n, end_pan, Tm.get_set, argT, Nat.reduceEqDiff, Nat.reduceAdd, if_true, if_false, cond_true, cond_false, Bool.true_eq_false, Bool.false_eq_true, Bool.not_true, Bool.not_false, reduceCtorEq, List.toList_toArray, Nat.reduceLT, results?, vals, ite_true, ite_false, ↓xDraw_nil, ↓xDraw_L, ↓xDraw_A, ↓LW_some, ↓x1_none, ↓x1_guard, blur_nil, blur_cons, slotV_some, toO_w, look_none, look_guard, ↓gL_tt, ↓gL_tf, ↓gL_ft, ↓gL_ff, ↓gL_un, looksSame_nil, looksSame_cons, pendOk_nil, pendOk_cons, List.drop_succ_cons, List.drop_zero, List.take_succ_cons, List.take_zero, List.drop_nil, List.take_nil, Nat.reduceSub, Nat.reduceLeDiff, Nat.lt_irrefl, Nat.sub_self, Nat.sub_zero, Nat.zero_sub, true_and, Bool.and_true, Bool.and_self, Nat.zero_lt_one, Nat.not_lt_zero, Nat.le_refl, Nat.zero_le, Nat.zero_add, t0, t4, t10, t103, hlt, decide_true, x0, x1, x2, x3, x4, x5, x6, x7, l0, l1, l2, l3, l4, l5, l6, l7, fk, aK, lK, aW, lW, c6, c11, c25, c2, c13, c22, bxor_u, band_u, opD_unxor, unot_u, b273, sw2, hset3_2, hw1, true_and, opD_nilCheck, nilW_ptr]
          refine ⟨_, ?_, i + 1, rfl, ?_, ?_⟩
          · omega
          · omega
          · have : V K (W b 64) H (i + 1) = rnd (K.getD i 0) ((W b 64).getD i 0) [a, b', c, d, e', f, g, k] := by
              show rnd _ _ (V K (W b 64) H i) = _
              rw [hVe]
            rw [this]
            first | rfl | exact ⟨rfl, rfl⟩ | exact ⟨trivial, rfl⟩
        · obtain rfl : i = 64 := by omega
          have lv : load? cx [.cells e (us H ++ (mid ++ us K)), .cells 274 (us (W b 64)), .cells 273 (us (V K (W b 64) H 64))] 273 (.ptr 2 0) = some (.p (.agg (up (V K (W b 64) H 64)))) := by
            rw [load_whole a273 s273 rfl (by rw [us_length]; exact hV), mkAgg_us]
          simp only [sc232l22, sc232r14, sc232r23, ↓xC_skip, ↓xC_reg, ↓xC_seq, ↓seqP_n, ↓seqP_ret, ↓seqP_pan, ↓seqP_exit, ↓xC_cond, ↓condW_true, ↓condW_false, ↓xC_block, ↓blockP_n, ↓blockP_ret, ↓blockP_pan, ↓blockP_exit, ↓loopP_n, ↓loopP_ret, ↓loopP_pan, ↓loopP_exit, ↓xC_exit, ↓xC_ret, ↓xOps_nil, ↓xOps_cons, ↓xOps_guard, ↓gW_tt, ↓gW_tf, ↓gW_ft, ↓gW_ff, ↓gW_un, ↓opW_w, ↓opW_ws, ↓opW_wn, ↓opW_wh, ↓opW_value, ↓opW_panic, put_some, put_none, target_fn, ev_tmp, ev_func, ev_int, ev_bool, ev_str, ev_nils, ev_nilp, ev_nili, ev_nilf, evs_nil, evs_cons, evp_nil, evp_cons, evo_none, evo_some, opD_move, opD_assign, opD_pick, pickW_true, pickW_false, pickW_bool, opD_bin, opD_not, opD_conv, opD_load, opD_store, opD_indexAddr, opD_index, opD_fieldAddr, opD_field, opD_extract, opD_len', len_str, len_nils, len_vec, len_sl, opD_alloc, opD_append', opD_buildSlice, opD_build, opD_slice', ofO_some, lss_i, leq_i, gtr_i, geq_i, eql_i, neq_i, add_i, sub_i, mul_i, not_b, eql_s, neq_s, lss_s, leq_s, end_ret, end_n, end_pan, Tm.get_set, argT, Nat.reduceEqDiff, Nat.reduceAdd, if_true, if_false, cond_true, cond_false, Bool.true_eq_false, Bool.false_eq_true, Bool.not_true, Bool.not_false, reduceCtorEq, List.toList_toArray, Nat.reduceLT, results?, vals, ite_true, ite_false, t0, t4, t10, t103, hlt, decide_false, lv]
          refine xC_loop (fun n t h' d r => ∃ i : Nat, n = 8 - i ∧ i ≤ 8 ∧ d = [] ∧ r = none ∧ t.get 0 = .ptr 0 0 ∧ t.get 184 = .p (.agg (up (V K (W b 64) H 64))) ∧ t.get 185 = .p (.int .i64 (i : Int)) ∧ h' = [.cells e (us (HH (V K (W b 64) H 64) H i) ++ (mid ++ us K)), .cells 274 (us (W b 64)), .cells 273 (us (V K (W b 64) H 64))]) 8 ?_ ?_
          · refine ⟨0, rfl, by omega, rfl, rfl, ?_⟩
            simp only [↓xC_skip, ↓xC_reg, ↓xC_seq, ↓seqP_n, ↓seqP_ret, ↓seqP_pan, ↓seqP_exit, ↓xC_cond, ↓condW_true, ↓condW_false, ↓xC_block, ↓blockP_n, ↓blockP_ret, ↓blockP_pan, ↓blockP_exit, ↓loopP_n, ↓loopP_ret, ↓loopP_pan, ↓loopP_exit, ↓xC_exit, ↓xC_ret, ↓xOps_nil, ↓xOps_cons, ↓xOps_guard, ↓gW_tt, ↓gW_tf, ↓gW_ft, ↓gW_ff, ↓gW_un, ↓opW_w, ↓opW_ws, ↓opW_wn, ↓opW_wh, ↓opW_value, ↓opW_panic, put_some, put_none, target_fn, ev_tmp, ev_func, ev_int, ev_bool, ev_str, ev_nils, ev_nilp, ev_nili, ev_nilf, evs_nil, evs_cons, evp_nil, evp_cons, evo_none, evo_some, opD_move, opD_assign, opD_pick, pickW_true, pickW_false, pickW_bool, opD_bin, opD_not, opD_conv, opD_load, opD_store, opD_indexAddr, opD_index, opD_fieldAddr, opD_field, opD_extract, opD_len', len_str, len_nils, len_vec, len_sl, opD_alloc, opD_append', opD_buildSlice, opD_build, opD_slice', ofO_some, lss_i, leq_i, gtr_i, geq_i, eql_i, neq_i, add_i, sub_i, mul_i, not_b, eql_s, neq_s, lss_s, leq_s, end_ret, end_n, end_pan, Tm.get_set, argT, Nat.reduceEqDiff, Nat.reduceAdd, if_true, if_false, cond_true, cond_false, Bool.true_eq_false, Bool.false_eq_true, Bool.not_true, Bool.not_false, reduceCtorEq, List.toList_toArray, Nat.reduceLT, results?, vals, ite_true, ite_false, true_and, t0]
            first | rfl | exact ⟨rfl, rfl⟩ | exact ⟨trivial, rfl⟩
          · rintro n t h' d r ⟨i, rfl, hi, rfl, rfl, t0, t184, t185, rfl⟩
            have hw1 : IntKind.wrap .i64 ((i : Int) + 1) = ((i + 1 : Nat) : Int) := by rw [wrap64_id (by omega) (by omega)]; omega
            have hl := HH_len (V K (W b 64) H 64) H i hH
            by_cases hlt : (i : Int) < 8
            · have hxi : index? cx 273 (.p (.agg (up (V K (W b 64) H 64)))) (.p (.int .i64 (i : Int))) = some (.p (.int .u32 ((V K (W b 64) H 64).getD i 0))) :=
                index_arr u273 s272 a272 (by omega) hlt (by rw [Int.toNat_natCast]; exact up_get (by omega))
              have aH : indexAddr? cx 273 (.ptr 0 0) (.p (.int .i64 (i : Int))) = some (.ptr 0 i) := by rw [ia u273 (by omega), Nat.zero_add]
              have lH : load? cx [.cells e (us (HH (V K (W b 64) H 64) H i) ++ (mid ++ us K)), .cells 274 (us (W b 64)), .cells 273 (us (V K (W b 64) H 64))] 272 (.ptr 0 i) = some (.p (.int .u32 ((HH (V K (W b 64) H 64) H i).getD i 0))) := by
                refine load_one a272 rfl ?_
                rw [List.getElem?_append_left (by rw [us_length]; omega)]
                exact us_get (by omega)
              have sH : ∀ n : Int, store? cx [.cells e (us (HH (V K (W b 64) H 64) H i) ++ (mid ++ us K)), .cells 274 (us (W b 64)), .cells 273 (us (V K (W b 64) H 64))] 272 (.ptr 0 i) (.p (.int .u32 n)) = .ws undefA 0 (.cells e (us ((HH (V K (W b 64) H 64) H i).set i n) ++ (mid ++ us K))) := fun n => by
                rw [store_one s272 rfl rfl (by rw [List.length_append, us_length]; omega), List.set_append_left _ _ (by rw [us_length]; omega), us_set]
              simp only [sc232l28, sc232r24, sc232r25, sc232d26_x, sc232r26, sc232r27, ↓xC_skip, ↓xC_reg, ↓xC_seq, ↓seqP_n, ↓seqP_ret, ↓seqP_pan, ↓seqP_exit, ↓xC_cond, ↓condW_true, ↓condW_false, ↓xC_block, ↓blockP_n, ↓blockP_ret, ↓blockP_pan, ↓blockP_exit, ↓loopP_n, ↓loopP_ret, ↓loopP_pan, ↓loopP_exit, ↓xC_exit, ↓xC_ret, ↓xOps_nil, ↓xOps_cons, ↓xOps_guard, ↓gW_tt, ↓gW_tf, ↓gW_ft, ↓gW_ff, ↓gW_un, ↓opW_w, ↓opW_ws, ↓opW_wn, ↓opW_wh, ↓opW_value, ↓opW_panic, put_some, put_none, target_fn, ev_tmp, ev_func, ev_int, ev_bool, ev_str, ev_nils, ev_nilp, ev_nili, ev_nilf, evs_nil, evs_cons, evp_nil, evp_cons, evo_none, evo_some, opD_move, opD_assign, opD_pick, pickW_true, pickW_false, pickW_bool, opD_bin, opD_not, opD_conv, opD_load, opD_store, opD_indexAddr, opD_index, opD_fieldAddr, opD_field, opD_extract, opD_len', len_str, len_nils, len_vec, len_sl, opD_alloc, opD_append', opD_buildSlice, opD_build, opD_slice', ofO_some, lss_i, leq_i, gtr_i, geq_i, eql_i, neq_i, add_i, sub_i, mul_i, not_b, eql_s, neq_s, lss_s, leq_s, end_ret, end_n, end_pan, Tm.get_set, argT, Nat.reduceEqDiff, Nat.reduceAdd, if_true, if_false, cond_true, cond_false, Bool.true_eq_false, Bool.false_eq_true, Bool.not_true, Bool.not_false, reduceCtorEq, List.toList_toArray, Nat.reduceLT, results?, vals, ite_true, ite_false, ↓xDraw_nil, ↓xDraw_L, ↓xDraw_A, ↓LW_some, ↓x1_none, ↓x1_guard, blur_nil, blur_cons, slotV_some, toO_w, look_none, look_guard, ↓gL_tt, ↓gL_tf, ↓gL_ft, ↓gL_ff, ↓gL_un, looksSame_nil, looksSame_cons, pendOk_nil, pendOk_cons, List.drop_succ_cons, List.drop_zero, List.take_succ_cons, List.take_zero, List.drop_nil, List.take_nil, Nat.reduceSub, Nat.reduceLeDiff, Nat.lt_irrefl, Nat.sub_self, Nat.sub_zero, Nat.zero_sub, true_and, Bool.and_true, Bool.and_self, Nat.zero_lt_one, Nat.not_lt_zero, Nat.le_refl, Nat.zero_le, Nat.zero_add, t0, t184, t185, hlt, decide_true, hxi, aH, lH, sH, fa, fb, hset3_0, hw1, true_and, opD_nilCheck, nilW_ptr]
              refine ⟨_, ?_, i + 1, rfl, ?_, ?_⟩
              · omega
              · omega
              · first | rfl | exact ⟨rfl, rfl⟩ | exact ⟨trivial, rfl⟩
            · obtain rfl : i = 8 := by omega
              simp only [sc232l28, sc232r24, ↓xC_skip, ↓xC_reg, ↓xC_seq, ↓seqP_n, ↓seqP_ret, ↓seqP_pan, ↓seqP_exit, ↓xC_cond, ↓condW_true, ↓condW_false, ↓xC_block, ↓blockP_n, ↓blockP_ret, ↓blockP_pan, ↓blockP_exit, ↓loopP_n, ↓loopP_ret, ↓loopP_pan, ↓loopP_exit, ↓xC_exit, ↓xC_ret, ↓xOps_nil, ↓xOps_cons, ↓xOps_guard, ↓gW_tt, ↓gW_tf, ↓gW_ft, ↓gW_ff, ↓gW_un, ↓opW_w, ↓opW_ws, ↓opW_wn, ↓opW_wh, ↓opW_value, ↓opW_panic, put_some, put_none, target_fn, ev_tmp, ev_func, ev_int, ev_bool, ev_str, ev_nils, ev_nilp, ev_nili, ev_nilf, evs_nil, evs_cons, evp_nil, evp_cons, evo_none, evo_some, opD_move, opD_assign, opD_pick, pickW_true, pickW_false, pickW_bool, opD_bin, opD_not, opD_conv, opD_load, opD_store, opD_indexAddr, opD_index, opD_fieldAddr, opD_field, opD_extract, opD_len', len_str, len_nils, len_vec, len_sl, opD_alloc, opD_append', opD_buildSlice, opD_build, opD_slice', ofO_some, lss_i, leq_i, gtr_i, geq_i, eql_i, neq_i, add_i, sub_i, mul_i, not_b, eql_s, neq_s, lss_s, leq_s, end_ret, end_n, end_pan, Tm.get_set, argT, Nat.reduceEqDiff, Nat.reduceAdd, if_true, if_false, cond_true, cond_false, Bool.true_eq_false, Bool.false_eq_true, Bool.not_true, Bool.not_false, reduceCtorEq, List.toList_toArray, Nat.reduceLT, results?, vals, ite_true, ite_false, t0, t184, t185, hlt, decide_false]
              first | rfl | exact ⟨rfl, rfl⟩ | exact ⟨trivial, rfl⟩
end Go.Proofs

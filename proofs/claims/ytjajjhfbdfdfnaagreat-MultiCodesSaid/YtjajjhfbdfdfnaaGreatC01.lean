/- What is proved: contracts of the functions that the codes' law calls, first part. Conditions: the memory of calls holds no contract but that of the examples. -/
import Derived.Test.YtjajjhfbdfdfnaaGreatA10
import Derived.Test.YtjajjhfbdfdfnaaGreatB01
import Derived.KernelRfl
set_option linter.all false
set_option linter.unusedVariables false
set_option linter.unusedSimpArgs false
set_option linter.unnecessarySimpa false
set_option linter.deprecated false
set_option maxRecDepth 100000
namespace Go.Proofs
open Go Go.Ai
-- understory/understorylaw10.MultiCodes
def sc3r0 : List SOp := [⟨none, .assign (.const (.bool false)), (some 4)⟩]
def sc3r1 : List SOp := [⟨none, .move (.tmp 0), (some 11)⟩,
  ⟨none, .call { callee := .builtin .len, args := #[(.tmp 11)], argTypes := #[22] }, (some 12)⟩,
  ⟨none, .binOp .gtr 3 (.tmp 12) (.const (.int .i64 100)) 3, (some 13)⟩,
  ⟨none, .move (.tmp 13), (some 14)⟩,
  ⟨(some (some 14, false)), .move (.tmp 0), (some 15)⟩,
  ⟨(some (some 14, false)), .call { callee := .value (.func 5), args := #[(.tmp 15)], argTypes := #[22] }, (some 16)⟩,
  ⟨(some (some 14, false)), .unOp .not 4 (.tmp 16), (some 17)⟩,
  ⟨none, .pick (.tmp 14) (.const (.bool true)) (.tmp 17), (some 18)⟩,
  ⟨none, .move (.tmp 18), (some 19)⟩,
  ⟨(some (some 19, false)), .move (.tmp 1), (some 20)⟩,
  ⟨(some (some 19, false)), .buildSlice 22 1 #[(0, (.tmp 20))], (some 21)⟩,
  ⟨(some (some 19, false)), .call { callee := .value (.func 5), args := #[(.tmp 21)], argTypes := #[22] }, (some 22)⟩,
  ⟨(some (some 19, false)), .unOp .not 4 (.tmp 22), (some 23)⟩,
  ⟨none, .pick (.tmp 19) (.const (.bool true)) (.tmp 23), (some 24)⟩]
def sc3r2 : List SOp := [⟨none, .call { callee := .value (.func 6), args := #[], argTypes := #[] }, (some 25)⟩,
  ⟨none, .assign (.tmp 25), (some 4)⟩]
def sc3r3 : List SOp := [⟨none, .move (.tmp 0), (some 27)⟩,
  ⟨none, .call { callee := .value (.func 7), args := #[(.tmp 27)], argTypes := #[22] }, (some 28)⟩,
  ⟨none, .move (.tmp 28), (some 26)⟩,
  ⟨none, .extract (.tmp 26) 0, (some 29)⟩,
  ⟨none, .extract (.tmp 26) 1, (some 30)⟩,
  ⟨none, .assign (.tmp 29), (some 5)⟩,
  ⟨none, .assign (.tmp 30), (some 6)⟩]
def sc3r4 : List SOp := [⟨none, .move (.tmp 0), (some 31)⟩,
  ⟨none, .call { callee := .value (.func 8), args := #[(.tmp 31)], argTypes := #[22] }, (some 32)⟩,
  ⟨none, .alloc 29, (some 7)⟩,
  ⟨none, .store 29 (.tmp 7) (.tmp 32), none⟩]
def sc3r5 : List SOp := [⟨none, .move (.tmp 1), (some 34)⟩,
  ⟨none, .call { callee := .value (.func 9), args := #[(.tmp 34)], argTypes := #[9] }, (some 35)⟩,
  ⟨none, .move (.tmp 35), (some 33)⟩,
  ⟨none, .extract (.tmp 33) 0, (some 36)⟩,
  ⟨none, .extract (.tmp 33) 1, (some 37)⟩,
  ⟨none, .assign (.tmp 36), (some 8)⟩,
  ⟨none, .assign (.tmp 37), (some 9)⟩]
def sc3r6 : List SOp := [⟨none, .move (.tmp 1), (some 38)⟩,
  ⟨none, .call { callee := .value (.func 10), args := #[(.tmp 38)], argTypes := #[9] }, (some 39)⟩,
  ⟨none, .alloc 34, (some 10)⟩,
  ⟨none, .store 34 (.tmp 10) (.tmp 39), none⟩]
def sc3r7 : List SOp := [⟨none, .call { callee := .value (.func 6), args := #[], argTypes := #[] }, (some 40)⟩,
  ⟨none, .move (.tmp 40), (some 41)⟩,
  ⟨(some (some 41, true)), .move (.tmp 5), (some 42)⟩,
  ⟨(some (some 41, true)), .fieldAddr 29 (.tmp 7) 0, (some 43)⟩,
  ⟨(some (some 41, true)), .load 9 (.tmp 43), (some 44)⟩,
  ⟨(some (some 41, true)), .binOp .eql 9 (.tmp 42) (.tmp 44) 9, (some 45)⟩,
  ⟨none, .pick (.tmp 41) (.tmp 45) (.const (.bool false)), (some 46)⟩,
  ⟨none, .move (.tmp 46), (some 47)⟩,
  ⟨(some (some 47, true)), .move (.tmp 6), (some 48)⟩,
  ⟨(some (some 47, true)), .fieldAddr 29 (.tmp 7) 1, (some 49)⟩,
  ⟨(some (some 47, true)), .load 25 (.tmp 49), (some 50)⟩,
  ⟨(some (some 47, true)), .binOp .eql 25 (.tmp 48) (.tmp 50) 25, (some 51)⟩,
  ⟨none, .pick (.tmp 47) (.tmp 51) (.const (.bool false)), (some 52)⟩,
  ⟨none, .move (.tmp 52), (some 53)⟩,
  ⟨(some (some 53, true)), .move (.tmp 8), (some 54)⟩,
  ⟨(some (some 53, true)), .fieldAddr 34 (.tmp 10) 0, (some 55)⟩,
  ⟨(some (some 53, true)), .load 22 (.tmp 55), (some 56)⟩,
  ⟨(some (some 53, true)), .call { callee := .value (.func 11), args := #[(.tmp 54), (.tmp 56)], argTypes := #[22, 22] }, (some 57)⟩,
  ⟨none, .pick (.tmp 53) (.tmp 57) (.const (.bool false)), (some 58)⟩,
  ⟨none, .move (.tmp 58), (some 59)⟩,
  ⟨(some (some 59, true)), .move (.tmp 9), (some 60)⟩,
  ⟨(some (some 59, true)), .fieldAddr 34 (.tmp 10) 1, (some 61)⟩,
  ⟨(some (some 59, true)), .load 25 (.tmp 61), (some 62)⟩,
  ⟨(some (some 59, true)), .binOp .eql 25 (.tmp 60) (.tmp 62) 25, (some 63)⟩,
  ⟨none, .pick (.tmp 59) (.tmp 63) (.const (.bool false)), (some 64)⟩,
  ⟨none, .assign (.tmp 64), (some 4)⟩]
def sc3 : SC := (.seq (.reg sc3r0) (.seq (.seq (.reg sc3r1) (.cond (.tmp 24) (.seq (.reg sc3r2) .ret) .skip)) (.seq (.reg sc3r3) (.seq (.reg sc3r4) (.seq (.reg sc3r5) (.seq (.reg sc3r6) (.seq (.reg sc3r7) .ret)))))))
theorem sc3_ok : Tryz.f3.body.map tr = some sc3 := by kernel_rfl
theorem fn3 : cx.fn 3 = some Tryz.f3 := by kernel_rfl
theorem ext3 : cx.ext 3 = none := by kernel_rfl
theorem sc3_dst : okS 65 sc3 = true := by kernel_rfl
theorem ct3 {o args h P} (ho : o 3 args h = none) (ha : Nat.ble args.length 65 = true) (hw : xC cx o none sc3 (endP cx [.tmp 4] P) (argT args 0 .lf) h [] none) : Ct cx o (.fn 3 args) h P :=
  ct_sc fn3 sc3_ok rfl rfl ho ha sc3_dst hw
-- understory/understorylaw10.short
def sc5r0 : List SOp := [⟨none, .assign (.const (.bool false)), (some 2)⟩]
def sc5r1 : List SOp := [⟨none, .assign (.const (.int .i64 0)), (some 3)⟩]
def sc5r2 : List SOp := [⟨none, .move (.tmp 3), (some 4)⟩,
  ⟨none, .move (.tmp 0), (some 5)⟩,
  ⟨none, .call { callee := .builtin .len, args := #[(.tmp 5)], argTypes := #[22] }, (some 6)⟩,
  ⟨none, .binOp .lss 3 (.tmp 4) (.tmp 6) 3, (some 7)⟩]
def sc5r3 : List SOp := [⟨none, .move (.tmp 0), (some 10)⟩,
  ⟨none, .move (.tmp 3), (some 11)⟩,
  ⟨none, .indexAddr 22 (.tmp 10) (.tmp 11), (some 12)⟩,
  ⟨none, .load 9 (.tmp 12), (some 13)⟩,
  ⟨none, .call { callee := .builtin .len, args := #[(.tmp 13)], argTypes := #[9] }, (some 14)⟩,
  ⟨none, .binOp .gtr 3 (.tmp 14) (.const (.int .i64 200)) 3, (some 15)⟩]
def sc5r4 : List SOp := [⟨none, .assign (.const (.bool false)), (some 2)⟩]
def sc5r5 : List SOp := [⟨none, .move (.tmp 3), (some 8)⟩,
  ⟨none, .binOp .add 3 (.tmp 8) (.const (.int .i64 1)) 3, (some 9)⟩,
  ⟨none, .assign (.tmp 9), (some 3)⟩]
def sc5l6 : SC := (.seq (.seq (.reg sc5r2) (.cond (.tmp 7) .skip (.exit 0))) (.seq (.block 1 (.seq (.reg sc5r3) (.cond (.tmp 15) (.seq (.reg sc5r4) .ret) .skip))) (.reg sc5r5)))
def sc5r7 : List SOp := [⟨none, .assign (.const (.bool true)), (some 2)⟩]
def sc5 : SC := (.seq (.reg sc5r0) (.seq (.seq (.reg sc5r1) (.block 0 (.loop sc5l6))) (.seq (.reg sc5r7) .ret)))
theorem sc5_ok : Tryz.f5.body.map tr = some sc5 := by kernel_rfl
theorem fn5 : cx.fn 5 = some Tryz.f5 := by kernel_rfl
theorem ext5 : cx.ext 5 = none := by kernel_rfl
theorem sc5_dst : okS 16 sc5 = true := by kernel_rfl
theorem ct5 {o args h P} (ho : o 5 args h = none) (ha : Nat.ble args.length 16 = true) (hw : xC cx o none sc5 (endP cx [.tmp 2] P) (argT args 0 .lf) h [] none) : Ct cx o (.fn 5 args) h P :=
  ct_sc fn5 sc5_ok rfl rfl ho ha sc5_dst hw
-- understory/understorylaw10.sane
def sc6r0 : List SOp := [⟨none, .assign (.const (.bool false)), (some 0)⟩]
def sc6r1 : List SOp := [⟨none, .call { callee := .value (.func 22), args := #[(.const (.int .i64 9))], argTypes := #[3] }, (some 29)⟩,
  ⟨none, .alloc 41, (some 1)⟩,
  ⟨none, .store 41 (.tmp 1) (.tmp 29), none⟩]
def sc6r2 : List SOp := [⟨none, .buildSlice 22 2 #[(0, (.const (.string (ByteArray.mk #[97])))), (1, (.const (.string (ByteArray.mk #[98, 99]))))], (some 31)⟩,
  ⟨none, .call { callee := .value (.func 7), args := #[(.tmp 31)], argTypes := #[22] }, (some 32)⟩,
  ⟨none, .move (.tmp 32), (some 30)⟩,
  ⟨none, .extract (.tmp 30) 0, (some 33)⟩,
  ⟨none, .extract (.tmp 30) 1, (some 34)⟩,
  ⟨none, .assign (.tmp 33), (some 2)⟩,
  ⟨none, .assign (.tmp 34), (some 3)⟩]
def sc6r3 : List SOp := [⟨none, .call { callee := .value (.func 9), args := #[(.const (.string (ByteArray.mk #[2, 98, 1, 97])))], argTypes := #[9] }, (some 36)⟩,
  ⟨none, .move (.tmp 36), (some 35)⟩,
  ⟨none, .extract (.tmp 35) 0, (some 37)⟩,
  ⟨none, .extract (.tmp 35) 1, (some 38)⟩,
  ⟨none, .assign (.tmp 37), (some 4)⟩,
  ⟨none, .assign (.tmp 38), (some 5)⟩]
def sc6r4 : List SOp := [⟨none, .load 41 (.tmp 1), (some 40)⟩,
  ⟨none, .build 48 #[], (some 41)⟩,
  ⟨none, .call { callee := .value (.func 24), args := #[(.tmp 40), (.tmp 41), (.const (.string (ByteArray.mk #[107]))), (.const (.string (ByteArray.mk #[118])))], argTypes := #[41, 48, 9, 9] }, (some 42)⟩,
  ⟨none, .move (.tmp 42), (some 39)⟩,
  ⟨none, .extract (.tmp 39) 0, (some 43)⟩,
  ⟨none, .extract (.tmp 39) 1, (some 44)⟩,
  ⟨none, .extract (.tmp 39) 2, (some 45)⟩,
  ⟨none, .extract (.tmp 39) 3, (some 46)⟩,
  ⟨none, .alloc 41, (some 6)⟩,
  ⟨none, .alloc 48, (some 7)⟩,
  ⟨none, .store 41 (.tmp 6) (.tmp 43), none⟩,
  ⟨none, .store 48 (.tmp 7) (.tmp 44), none⟩,
  ⟨none, .assign (.tmp 45), (some 8)⟩,
  ⟨none, .assign (.tmp 46), (some 9)⟩]
def sc6r5 : List SOp := [⟨none, .load 41 (.tmp 6), (some 48)⟩,
  ⟨none, .load 48 (.tmp 7), (some 49)⟩,
  ⟨none, .call { callee := .value (.func 24), args := #[(.tmp 48), (.tmp 49), (.const (.string (ByteArray.mk #[107]))), (.const (.string (ByteArray.mk #[118])))], argTypes := #[41, 48, 9, 9] }, (some 50)⟩,
  ⟨none, .move (.tmp 50), (some 47)⟩,
  ⟨none, .extract (.tmp 47) 0, (some 51)⟩,
  ⟨none, .extract (.tmp 47) 1, (some 52)⟩,
  ⟨none, .extract (.tmp 47) 2, (some 53)⟩,
  ⟨none, .extract (.tmp 47) 3, (some 54)⟩,
  ⟨none, .alloc 41, (some 10)⟩,
  ⟨none, .alloc 48, (some 11)⟩,
  ⟨none, .store 41 (.tmp 10) (.tmp 51), none⟩,
  ⟨none, .store 48 (.tmp 11) (.tmp 52), none⟩,
  ⟨none, .assign (.tmp 53), (some 12)⟩,
  ⟨none, .assign (.tmp 54), (some 13)⟩]
def sc6r6 : List SOp := [⟨none, .move (.tmp 3), (some 55)⟩,
  ⟨none, .binOp .neq 25 (.tmp 55) (.const (.int .i64 0)) 25, (some 56)⟩,
  ⟨none, .move (.tmp 56), (some 57)⟩,
  ⟨(some (some 57, false)), .move (.tmp 5), (some 58)⟩,
  ⟨(some (some 57, false)), .binOp .neq 25 (.tmp 58) (.const (.int .i64 2)) 25, (some 59)⟩,
  ⟨none, .pick (.tmp 57) (.const (.bool true)) (.tmp 59), (some 60)⟩,
  ⟨none, .move (.tmp 60), (some 61)⟩,
  ⟨(some (some 61, false)), .move (.tmp 9), (some 62)⟩,
  ⟨(some (some 61, false)), .binOp .neq 25 (.tmp 62) (.const (.int .i64 0)) 25, (some 63)⟩,
  ⟨none, .pick (.tmp 61) (.const (.bool true)) (.tmp 63), (some 64)⟩,
  ⟨none, .move (.tmp 64), (some 65)⟩,
  ⟨(some (some 65, false)), .move (.tmp 13), (some 66)⟩,
  ⟨(some (some 65, false)), .binOp .neq 25 (.tmp 66) (.const (.int .i64 0)) 25, (some 67)⟩,
  ⟨none, .pick (.tmp 65) (.const (.bool true)) (.tmp 67), (some 68)⟩,
  ⟨none, .move (.tmp 68), (some 69)⟩,
  ⟨(some (some 69, false)), .move (.tmp 2), (some 70)⟩,
  ⟨(some (some 69, false)), .binOp .neq 9 (.tmp 70) (.const (.string (ByteArray.mk #[1, 97, 2, 98, 99]))) 9, (some 71)⟩,
  ⟨none, .pick (.tmp 69) (.const (.bool true)) (.tmp 71), (some 72)⟩,
  ⟨none, .move (.tmp 72), (some 73)⟩,
  ⟨(some (some 73, false)), .move (.tmp 8), (some 74)⟩,
  ⟨(some (some 73, false)), .unOp .not 4 (.tmp 74), (some 75)⟩,
  ⟨none, .pick (.tmp 73) (.const (.bool true)) (.tmp 75), (some 76)⟩,
  ⟨none, .move (.tmp 76), (some 77)⟩,
  ⟨(some (some 77, false)), .move (.tmp 12), (some 78)⟩,
  ⟨none, .pick (.tmp 77) (.const (.bool true)) (.tmp 78), (some 79)⟩,
  ⟨none, .move (.tmp 79), (some 80)⟩,
  ⟨(some (some 80, false)), .fieldAddr 48 (.tmp 7) 0, (some 81)⟩,
  ⟨(some (some 80, false)), .load 3 (.tmp 81), (some 82)⟩,
  ⟨(some (some 80, false)), .binOp .neq 3 (.tmp 82) (.const (.int .i64 2)) 3, (some 83)⟩,
  ⟨none, .pick (.tmp 80) (.const (.bool true)) (.tmp 83), (some 84)⟩,
  ⟨none, .move (.tmp 84), (some 85)⟩,
  ⟨(some (some 85, false)), .fieldAddr 48 (.tmp 7) 1, (some 86)⟩,
  ⟨(some (some 85, false)), .load 3 (.tmp 86), (some 87)⟩,
  ⟨(some (some 85, false)), .binOp .neq 3 (.tmp 87) (.const (.int .i64 1)) 3, (some 88)⟩,
  ⟨none, .pick (.tmp 85) (.const (.bool true)) (.tmp 88), (some 89)⟩,
  ⟨none, .move (.tmp 89), (some 90)⟩,
  ⟨(some (some 90, false)), .load 48 (.tmp 11), (some 91)⟩,
  ⟨(some (some 90, false)), .load 48 (.tmp 7), (some 92)⟩,
  ⟨(some (some 90, false)), .binOp .neq 48 (.tmp 91) (.tmp 92) 48, (some 93)⟩,
  ⟨none, .pick (.tmp 90) (.const (.bool true)) (.tmp 93), (some 94)⟩]
def sc6r7 : List SOp := [⟨none, .assign (.const (.bool false)), (some 0)⟩]
def sc6r8 : List SOp := [⟨none, .load 41 (.tmp 1), (some 95)⟩,
  ⟨none, .store 41 (.tmp 6) (.tmp 95), none⟩]
def sc6r9 : List SOp := [⟨none, .build 48 #[], (some 96)⟩,
  ⟨none, .store 48 (.tmp 7) (.tmp 96), none⟩]
def sc6r10 : List SOp := [⟨none, .call { callee := .value (.func 25), args := #[(.const (.int .u8 120))], argTypes := #[5] }, (some 97)⟩,
  ⟨none, .call { callee := .value (.func 25), args := #[(.const (.int .u8 121))], argTypes := #[5] }, (some 98)⟩,
  ⟨none, .call { callee := .value (.func 25), args := #[(.const (.int .u8 122))], argTypes := #[5] }, (some 99)⟩,
  ⟨none, .buildSlice 22 4 #[(0, (.tmp 97)), (1, (.tmp 98)), (2, (.tmp 99)), (3, (.const (.string (ByteArray.mk #[118]))))], (some 100)⟩,
  ⟨none, .assign (.tmp 100), (some 14)⟩]
def sc6r11 : List SOp := [⟨none, .assign (.const (.int .i64 0)), (some 15)⟩]
def sc6r12 : List SOp := [⟨none, .move (.tmp 15), (some 101)⟩,
  ⟨none, .binOp .lss 3 (.tmp 101) (.const (.int .i64 4)) 3, (some 102)⟩]
def sc6r13 : List (SOp × DK) := [(⟨none, .load 41 (.tmp 6), (some 106)⟩, .L 0 0 []),
  (⟨none, .load 48 (.tmp 7), (some 107)⟩, .L 0 0 []),
  (⟨none, .move (.tmp 14), (some 108)⟩, .L 0 0 []),
  (⟨none, .move (.tmp 15), (some 109)⟩, .L 0 0 []),
  (⟨none, .indexAddr 22 (.tmp 108) (.tmp 109), (some 110)⟩, .L 0 0 []),
  (⟨none, .load 9 (.tmp 110), (some 111)⟩, .L 0 0 []),
  (⟨none, .call { callee := .value (.func 24), args := #[(.tmp 106), (.tmp 107), (.const (.string (ByteArray.mk #[107]))), (.tmp 111)], argTypes := #[41, 48, 9, 9] }, (some 112)⟩, .A [106, 107, 108, 109, 110, 111, 112, 16, 17] [16, 17]),
  (⟨none, .move (.tmp 112), (some 105)⟩, .L 1 1 []),
  (⟨none, .extract (.tmp 105) 0, (some 113)⟩, .L 1 1 []),
  (⟨none, .extract (.tmp 105) 1, (some 114)⟩, .L 1 2 []),
  (⟨none, .extract (.tmp 105) 2, (some 115)⟩, .L 1 3 []),
  (⟨none, .extract (.tmp 105) 3, (some 116)⟩, .L 1 3 []),
  (⟨none, .alloc 41, (some 16)⟩, .Z),
  (⟨none, .alloc 48, (some 17)⟩, .Z),
  (⟨none, .store 41 (.tmp 16) (.tmp 113), none⟩, .A [106, 107, 108, 109, 110, 111, 112, 105, 113, 114, 115, 116, 16, 17] [114, 115, 116]),
  (⟨none, .store 48 (.tmp 17) (.tmp 114), none⟩, .A [106, 107, 108, 109, 110, 111, 112, 105, 113, 114, 115, 116, 16, 17] [115, 116]),
  (⟨none, .assign (.tmp 115), (some 18)⟩, .L 3 3 []),
  (⟨none, .assign (.tmp 116), (some 19)⟩, .L 3 3 [])]
def sc6d13 : SC := .draw sc6r13
def sc6r14 : List SOp := [⟨none, .move (.tmp 19), (some 117)⟩,
  ⟨none, .binOp .neq 25 (.tmp 117) (.const (.int .i64 0)) 25, (some 118)⟩,
  ⟨none, .move (.tmp 118), (some 119)⟩,
  ⟨(some (some 119, false)), .move (.tmp 18), (some 120)⟩,
  ⟨(some (some 119, false)), .unOp .not 4 (.tmp 120), (some 121)⟩,
  ⟨none, .pick (.tmp 119) (.const (.bool true)) (.tmp 121), (some 122)⟩]
def sc6r15 : List SOp := [⟨none, .assign (.const (.bool false)), (some 0)⟩]
def sc6r16 : List SOp := [⟨none, .load 41 (.tmp 16), (some 123)⟩,
  ⟨none, .store 41 (.tmp 6) (.tmp 123), none⟩]
def sc6r17 : List SOp := [⟨none, .load 48 (.tmp 17), (some 124)⟩,
  ⟨none, .store 48 (.tmp 7) (.tmp 124), none⟩]
def sc6r18 : List SOp := [⟨none, .move (.tmp 15), (some 103)⟩,
  ⟨none, .binOp .add 3 (.tmp 103) (.const (.int .i64 1)) 3, (some 104)⟩,
  ⟨none, .assign (.tmp 104), (some 15)⟩]
def sc6l19 : SC := (.seq (.seq (.reg sc6r12) (.cond (.tmp 102) .skip (.exit 0))) (.seq (.block 1 (.seq sc6d13 (.seq (.seq (.reg sc6r14) (.cond (.tmp 122) (.seq (.reg sc6r15) .ret) .skip)) (.seq (.reg sc6r16) (.reg sc6r17))))) (.reg sc6r18)))
def sc6r20 : List SOp := [⟨none, .load 41 (.tmp 6), (some 125)⟩,
  ⟨none, .load 48 (.tmp 7), (some 126)⟩,
  ⟨none, .call { callee := .value (.func 26), args := #[(.tmp 125), (.tmp 126), (.const (.string (ByteArray.mk #[107])))], argTypes := #[41, 48, 9] }, (some 127)⟩,
  ⟨none, .alloc 66, (some 20)⟩,
  ⟨none, .store 66 (.tmp 20) (.tmp 127), none⟩]
def sc6r21 : List SOp := [⟨none, .load 41 (.tmp 6), (some 129)⟩,
  ⟨none, .load 48 (.tmp 7), (some 130)⟩,
  ⟨none, .call { callee := .value (.func 27), args := #[(.tmp 129), (.tmp 130), (.const (.string (ByteArray.mk #[107])))], argTypes := #[41, 48, 9] }, (some 131)⟩,
  ⟨none, .move (.tmp 131), (some 128)⟩,
  ⟨none, .extract (.tmp 128) 0, (some 132)⟩,
  ⟨none, .extract (.tmp 128) 1, (some 133)⟩,
  ⟨none, .assign (.tmp 132), (some 21)⟩,
  ⟨none, .assign (.tmp 133), (some 3)⟩]
def sc6r22 : List (SOp × DK) := [(⟨none, .load 41 (.tmp 6), (some 135)⟩, .L 0 1 []),
  (⟨none, .load 48 (.tmp 7), (some 136)⟩, .L 0 1 []),
  (⟨none, .call { callee := .value (.func 25), args := #[(.const (.int .u8 121))], argTypes := #[5] }, (some 137)⟩, .A [135, 136, 137] [135, 136]),
  (⟨none, .call { callee := .value (.func 28), args := #[(.tmp 135), (.tmp 136), (.const (.string (ByteArray.mk #[107]))), (.tmp 137)], argTypes := #[41, 48, 9, 9] }, (some 138)⟩, .A [135, 136, 137, 138] []),
  (⟨none, .move (.tmp 138), (some 134)⟩, .L 2 2 []),
  (⟨none, .extract (.tmp 134) 0, (some 139)⟩, .L 2 2 []),
  (⟨none, .extract (.tmp 134) 1, (some 140)⟩, .L 2 2 []),
  (⟨none, .assign (.tmp 139), (some 22)⟩, .L 2 2 []),
  (⟨none, .assign (.tmp 140), (some 5)⟩, .L 2 2 [])]
def sc6d22 : SC := .draw sc6r22
theorem sc6d22_x {o rd Q t h d r} : xC cx o rd sc6d22 Q t h d r = xDraw cx o rd Q sc6r22 0 [h] [] [] t h d r := xC_draw (by kernel_rfl)
def sc6r23 : List SOp := [⟨none, .move (.tmp 3), (some 141)⟩,
  ⟨none, .binOp .neq 25 (.tmp 141) (.const (.int .i64 0)) 25, (some 142)⟩,
  ⟨none, .move (.tmp 142), (some 143)⟩,
  ⟨(some (some 143, false)), .move (.tmp 5), (some 144)⟩,
  ⟨(some (some 143, false)), .binOp .neq 25 (.tmp 144) (.const (.int .i64 0)) 25, (some 145)⟩,
  ⟨none, .pick (.tmp 143) (.const (.bool true)) (.tmp 145), (some 146)⟩,
  ⟨none, .move (.tmp 146), (some 147)⟩,
  ⟨(some (some 147, false)), .fieldAddr 66 (.tmp 20) 1, (some 148)⟩,
  ⟨(some (some 147, false)), .load 25 (.tmp 148), (some 149)⟩,
  ⟨(some (some 147, false)), .binOp .neq 25 (.tmp 149) (.const (.int .i64 0)) 25, (some 150)⟩,
  ⟨none, .pick (.tmp 147) (.const (.bool true)) (.tmp 150), (some 151)⟩,
  ⟨none, .move (.tmp 151), (some 152)⟩,
  ⟨(some (some 152, false)), .fieldAddr 66 (.tmp 20) 0, (some 153)⟩,
  ⟨(some (some 152, false)), .fieldAddr 50 (.tmp 153) 4, (some 154)⟩,
  ⟨(some (some 152, false)), .load 3 (.tmp 154), (some 155)⟩,
  ⟨(some (some 152, false)), .binOp .neq 3 (.tmp 155) (.const (.int .i64 3)) 3, (some 156)⟩,
  ⟨none, .pick (.tmp 152) (.const (.bool true)) (.tmp 156), (some 157)⟩,
  ⟨none, .move (.tmp 157), (some 158)⟩,
  ⟨(some (some 158, false)), .fieldAddr 66 (.tmp 20) 0, (some 159)⟩,
  ⟨(some (some 158, false)), .fieldAddr 50 (.tmp 159) 5, (some 160)⟩,
  ⟨(some (some 158, false)), .load 3 (.tmp 160), (some 161)⟩,
  ⟨(some (some 158, false)), .binOp .neq 3 (.tmp 161) (.const (.int .i64 4)) 3, (some 162)⟩,
  ⟨none, .pick (.tmp 158) (.const (.bool true)) (.tmp 162), (some 163)⟩,
  ⟨none, .move (.tmp 163), (some 164)⟩,
  ⟨(some (some 164, false)), .move (.tmp 21), (some 165)⟩,
  ⟨(some (some 164, false)), .binOp .neq 3 (.tmp 165) (.const (.int .i64 4)) 3, (some 166)⟩,
  ⟨none, .pick (.tmp 164) (.const (.bool true)) (.tmp 166), (some 167)⟩,
  ⟨none, .move (.tmp 167), (some 168)⟩,
  ⟨(some (some 168, false)), .move (.tmp 22), (some 169)⟩,
  ⟨(some (some 168, false)), .binOp .neq 3 (.tmp 169) (.const (.int .i64 2)) 3, (some 170)⟩,
  ⟨none, .pick (.tmp 168) (.const (.bool true)) (.tmp 170), (some 171)⟩]
def sc6r24 : List SOp := [⟨none, .assign (.const (.bool false)), (some 0)⟩]
def sc6r25 : List (SOp × DK) := [(⟨none, .load 41 (.tmp 6), (some 173)⟩, .L 0 1 []),
  (⟨none, .load 48 (.tmp 7), (some 174)⟩, .L 0 1 []),
  (⟨none, .call { callee := .value (.func 25), args := #[(.const (.int .u8 120))], argTypes := #[5] }, (some 175)⟩, .A [173, 174, 175, 23] [173, 174, 23]),
  (⟨none, .call { callee := .value (.func 29), args := #[(.tmp 173), (.tmp 174), (.const (.string (ByteArray.mk #[107]))), (.tmp 175)], argTypes := #[41, 48, 9, 9] }, (some 176)⟩, .A [173, 174, 175, 176, 23] [23]),
  (⟨none, .move (.tmp 176), (some 172)⟩, .L 2 2 []),
  (⟨none, .extract (.tmp 172) 0, (some 177)⟩, .L 2 2 []),
  (⟨none, .extract (.tmp 172) 1, (some 178)⟩, .L 2 3 []),
  (⟨none, .extract (.tmp 172) 2, (some 179)⟩, .L 2 4 []),
  (⟨none, .extract (.tmp 172) 3, (some 180)⟩, .L 2 4 []),
  (⟨none, .alloc 41, (some 23)⟩, .Z),
  (⟨none, .store 41 (.tmp 23) (.tmp 177), none⟩, .A [173, 174, 175, 176, 172, 177, 178, 179, 180, 23] [178, 179, 180]),
  (⟨none, .store 48 (.tmp 11) (.tmp 178), none⟩, .A [173, 174, 175, 176, 172, 177, 178, 179, 180, 23] [179, 180]),
  (⟨none, .assign (.tmp 179), (some 24)⟩, .L 4 4 []),
  (⟨none, .assign (.tmp 180), (some 3)⟩, .L 4 4 [])]
def sc6d25 : SC := .draw sc6r25
def sc6r26 : List SOp := [⟨none, .load 41 (.tmp 23), (some 182)⟩,
  ⟨none, .load 48 (.tmp 11), (some 183)⟩,
  ⟨none, .call { callee := .value (.func 30), args := #[(.tmp 182), (.tmp 183), (.const (.string (ByteArray.mk #[107]))), (.const (.string (ByteArray.mk #[119]))), (.const (.int .i64 9))], argTypes := #[41, 48, 9, 9, 3] }, (some 184)⟩,
  ⟨none, .move (.tmp 184), (some 181)⟩,
  ⟨none, .extract (.tmp 181) 0, (some 185)⟩,
  ⟨none, .extract (.tmp 181) 1, (some 186)⟩,
  ⟨none, .assign (.tmp 185), (some 25)⟩,
  ⟨none, .assign (.tmp 186), (some 5)⟩]
def sc6r27 : List SOp := [⟨none, .load 41 (.tmp 23), (some 188)⟩,
  ⟨none, .load 48 (.tmp 11), (some 189)⟩,
  ⟨none, .call { callee := .value (.func 29), args := #[(.tmp 188), (.tmp 189), (.const (.string (ByteArray.mk #[106]))), (.const (.string (ByteArray.mk #[118])))], argTypes := #[41, 48, 9, 9] }, (some 190)⟩,
  ⟨none, .move (.tmp 190), (some 187)⟩,
  ⟨none, .extract (.tmp 187) 0, (some 191)⟩,
  ⟨none, .extract (.tmp 187) 1, (some 192)⟩,
  ⟨none, .extract (.tmp 187) 2, (some 193)⟩,
  ⟨none, .extract (.tmp 187) 3, (some 194)⟩,
  ⟨none, .alloc 41, (some 26)⟩,
  ⟨none, .alloc 48, (some 27)⟩,
  ⟨none, .store 41 (.tmp 26) (.tmp 191), none⟩,
  ⟨none, .store 48 (.tmp 27) (.tmp 192), none⟩,
  ⟨none, .assign (.tmp 193), (some 28)⟩,
  ⟨none, .assign (.tmp 194), (some 9)⟩]
def sc6r28 : List SOp := [⟨none, .load 41 (.tmp 23), (some 196)⟩,
  ⟨none, .load 48 (.tmp 11), (some 197)⟩,
  ⟨none, .call { callee := .value (.func 24), args := #[(.tmp 196), (.tmp 197), (.const (.string (ByteArray.mk #[107]))), (.const (.string (ByteArray.mk #[])))], argTypes := #[41, 48, 9, 9] }, (some 198)⟩,
  ⟨none, .move (.tmp 198), (some 195)⟩,
  ⟨none, .extract (.tmp 195) 0, (some 199)⟩,
  ⟨none, .extract (.tmp 195) 1, (some 200)⟩,
  ⟨none, .extract (.tmp 195) 2, (some 201)⟩,
  ⟨none, .extract (.tmp 195) 3, (some 202)⟩,
  ⟨none, .assign (.tmp 202), (some 13)⟩]
def sc6r29 : List SOp := [⟨none, .move (.tmp 3), (some 203)⟩,
  ⟨none, .binOp .eql 25 (.tmp 203) (.const (.int .i64 0)) 25, (some 204)⟩,
  ⟨none, .move (.tmp 204), (some 205)⟩,
  ⟨(some (some 205, true)), .move (.tmp 24), (some 206)⟩,
  ⟨none, .pick (.tmp 205) (.tmp 206) (.const (.bool false)), (some 207)⟩,
  ⟨none, .move (.tmp 207), (some 208)⟩,
  ⟨(some (some 208, true)), .move (.tmp 5), (some 209)⟩,
  ⟨(some (some 208, true)), .binOp .eql 25 (.tmp 209) (.const (.int .i64 0)) 25, (some 210)⟩,
  ⟨none, .pick (.tmp 208) (.tmp 210) (.const (.bool false)), (some 211)⟩,
  ⟨none, .move (.tmp 211), (some 212)⟩,
  ⟨(some (some 212, true)), .move (.tmp 9), (some 213)⟩,
  ⟨(some (some 212, true)), .binOp .eql 25 (.tmp 213) (.const (.int .i64 0)) 25, (some 214)⟩,
  ⟨none, .pick (.tmp 212) (.tmp 214) (.const (.bool false)), (some 215)⟩,
  ⟨none, .move (.tmp 215), (some 216)⟩,
  ⟨(some (some 216, true)), .move (.tmp 28), (some 217)⟩,
  ⟨(some (some 216, true)), .unOp .not 4 (.tmp 217), (some 218)⟩,
  ⟨none, .pick (.tmp 216) (.tmp 218) (.const (.bool false)), (some 219)⟩,
  ⟨none, .move (.tmp 219), (some 220)⟩,
  ⟨(some (some 220, true)), .move (.tmp 13), (some 221)⟩,
  ⟨(some (some 220, true)), .binOp .eql 25 (.tmp 221) (.const (.int .i64 1)) 25, (some 222)⟩,
  ⟨none, .pick (.tmp 220) (.tmp 222) (.const (.bool false)), (some 223)⟩,
  ⟨none, .move (.tmp 223), (some 224)⟩,
  ⟨(some (some 224, true)), .fieldAddr 41 (.tmp 23) 1, (some 225)⟩,
  ⟨(some (some 224, true)), .load 39 (.tmp 225), (some 226)⟩,
  ⟨(some (some 224, true)), .call { callee := .builtin .len, args := #[(.tmp 226)], argTypes := #[39] }, (some 227)⟩,
  ⟨(some (some 224, true)), .binOp .gtr 3 (.tmp 227) (.const (.int .i64 0)) 3, (some 228)⟩,
  ⟨none, .pick (.tmp 224) (.tmp 228) (.const (.bool false)), (some 229)⟩,
  ⟨none, .move (.tmp 229), (some 230)⟩,
  ⟨(some (some 230, true)), .fieldAddr 41 (.tmp 23) 1, (some 231)⟩,
  ⟨(some (some 230, true)), .load 39 (.tmp 231), (some 232)⟩,
  ⟨(some (some 230, true)), .indexAddr 39 (.tmp 232) (.const (.int .i64 0)), (some 233)⟩,
  ⟨(some (some 230, true)), .load 3 (.tmp 233), (some 234)⟩,
  ⟨(some (some 230, true)), .binOp .eql 3 (.tmp 234) (.const (.int .i64 3)) 3, (some 235)⟩,
  ⟨none, .pick (.tmp 230) (.tmp 235) (.const (.bool false)), (some 236)⟩,
  ⟨none, .move (.tmp 236), (some 237)⟩,
  ⟨(some (some 237, true)), .move (.tmp 25), (some 238)⟩,
  ⟨(some (some 237, true)), .call { callee := .value (.func 25), args := #[(.const (.int .u8 121))], argTypes := #[5] }, (some 239)⟩,
  ⟨(some (some 237, true)), .call { callee := .value (.func 25), args := #[(.const (.int .u8 122))], argTypes := #[5] }, (some 240)⟩,
  ⟨(some (some 237, true)), .buildSlice 22 2 #[(0, (.tmp 239)), (1, (.tmp 240))], (some 241)⟩,
  ⟨(some (some 237, true)), .call { callee := .value (.func 11), args := #[(.tmp 238), (.tmp 241)], argTypes := #[22, 22] }, (some 242)⟩,
  ⟨none, .pick (.tmp 237) (.tmp 242) (.const (.bool false)), (some 243)⟩,
  ⟨none, .move (.tmp 243), (some 244)⟩,
  ⟨(some (some 244, true)), .load 41 (.tmp 23), (some 245)⟩,
  ⟨(some (some 244, true)), .load 48 (.tmp 11), (some 246)⟩,
  ⟨(some (some 244, true)), .call { callee := .value (.func 31), args := #[(.tmp 245), (.tmp 246)], argTypes := #[41, 48] }, (some 247)⟩,
  ⟨(some (some 244, true)), .binOp .eql 25 (.tmp 247) (.const (.int .i64 0)) 25, (some 248)⟩,
  ⟨none, .pick (.tmp 244) (.tmp 248) (.const (.bool false)), (some 249)⟩,
  ⟨none, .assign (.tmp 249), (some 0)⟩]
def sc6 : SC := (.seq (.reg sc6r0) (.seq (.reg sc6r1) (.seq (.reg sc6r2) (.seq (.reg sc6r3) (.seq (.reg sc6r4) (.seq (.reg sc6r5) (.seq (.seq (.reg sc6r6) (.cond (.tmp 94) (.seq (.reg sc6r7) .ret) .skip)) (.seq (.reg sc6r8) (.seq (.reg sc6r9) (.seq (.reg sc6r10) (.seq (.seq (.reg sc6r11) (.block 0 (.loop sc6l19))) (.seq (.reg sc6r20) (.seq (.reg sc6r21) (.seq sc6d22 (.seq (.seq (.reg sc6r23) (.cond (.tmp 171) (.seq (.reg sc6r24) .ret) .skip)) (.seq sc6d25 (.seq (.reg sc6r26) (.seq (.reg sc6r27) (.seq (.reg sc6r28) (.seq (.reg sc6r29) .ret))))))))))))))))))))
theorem sc6_ok : Tryz.f6.body.map tr = some sc6 := by kernel_rfl
theorem fn6 : cx.fn 6 = some Tryz.f6 := by kernel_rfl
theorem ext6 : cx.ext 6 = none := by kernel_rfl
theorem sc6_dst : okS 250 sc6 = true := by kernel_rfl
theorem ct6 {o args h P} (ho : o 6 args h = none) (ha : Nat.ble args.length 250 = true) (hw : xC cx o none sc6 (endP cx [.tmp 0] P) (argT args 0 .lf) h [] none) : Ct cx o (.fn 6 args) h P :=
  ct_sc fn6 sc6_ok rfl rfl ho ha sc6_dst hw
-- understory/multi.Encode
def sc7r0 : List SOp := [⟨none, .assign (.const (.string (ByteArray.mk #[]))), (some 2)⟩,
  ⟨none, .assign (.const (.int .i64 0)), (some 3)⟩]
def sc7r1 : List SOp := [⟨none, .move (.tmp 0), (some 5)⟩,
  ⟨none, .call { callee := .value (.func 32), args := #[(.tmp 5)], argTypes := #[22] }, (some 6)⟩,
  ⟨none, .unOp .not 4 (.tmp 6), (some 7)⟩]
def sc7r2 : List SOp := [⟨none, .assign (.const (.string (ByteArray.mk #[]))), (some 2)⟩,
  ⟨none, .assign (.const (.int .i64 2)), (some 3)⟩]
def sc7r3 : List SOp := [⟨none, .move (.tmp 0), (some 8)⟩,
  ⟨none, .call { callee := .value (.func 33), args := #[(.tmp 8)], argTypes := #[22] }, (some 9)⟩,
  ⟨none, .assign (.tmp 9), (some 4)⟩]
def sc7r4 : List SOp := [⟨none, .move (.tmp 4), (some 10)⟩,
  ⟨none, .call { callee := .builtin .len, args := #[(.tmp 10)], argTypes := #[9] }, (some 11)⟩,
  ⟨none, .binOp .gtr 3 (.tmp 11) (.const (.int .i64 64)) 3, (some 12)⟩]
def sc7r5 : List SOp := [⟨none, .assign (.const (.string (ByteArray.mk #[]))), (some 2)⟩,
  ⟨none, .assign (.const (.int .i64 3)), (some 3)⟩]
def sc7r6 : List SOp := [⟨none, .move (.tmp 4), (some 13)⟩,
  ⟨none, .assign (.tmp 13), (some 2)⟩,
  ⟨none, .assign (.const (.int .i64 0)), (some 3)⟩]
def sc7 : SC := (.seq (.reg sc7r0) (.seq (.seq (.reg sc7r1) (.cond (.tmp 7) (.seq (.reg sc7r2) .ret) .skip)) (.seq (.reg sc7r3) (.seq (.seq (.reg sc7r4) (.cond (.tmp 12) (.seq (.reg sc7r5) .ret) .skip)) (.seq (.reg sc7r6) .ret)))))
theorem sc7_ok : Tryz.f7.body.map tr = some sc7 := by kernel_rfl
theorem fn7 : cx.fn 7 = some Tryz.f7 := by kernel_rfl
theorem ext7 : cx.ext 7 = none := by kernel_rfl
theorem sc7_dst : okS 14 sc7 = true := by kernel_rfl
theorem ct7 {o args h P} (ho : o 7 args h = none) (ha : Nat.ble args.length 14 = true) (hw : xC cx o none sc7 (endP cx [.tmp 2, .tmp 3] P) (argT args 0 .lf) h [] none) : Ct cx o (.fn 7 args) h P :=
  ct_sc fn7 sc7_ok rfl rfl ho ha sc7_dst hw
-- understory/understoryref10.Encode
def sc8r0 : List SOp := [⟨none, .alloc 29, (some 2)⟩]
def sc8r1 : List SOp := [⟨none, .move (.tmp 0), (some 4)⟩,
  ⟨none, .call { callee := .value (.func 34), args := #[(.tmp 4)], argTypes := #[22] }, (some 5)⟩,
  ⟨none, .unOp .not 4 (.tmp 5), (some 6)⟩]
def sc8r2 : List SOp := [⟨none, .build 29 #[(1, (.const (.int .i64 2)))], (some 7)⟩,
  ⟨none, .store 29 (.tmp 2) (.tmp 7), none⟩]
def sc8r3 : List SOp := [⟨none, .move (.tmp 0), (some 8)⟩,
  ⟨none, .call { callee := .value (.func 35), args := #[(.tmp 8)], argTypes := #[22] }, (some 9)⟩,
  ⟨none, .assign (.tmp 9), (some 3)⟩]
def sc8r4 : List SOp := [⟨none, .move (.tmp 3), (some 10)⟩,
  ⟨none, .call { callee := .builtin .len, args := #[(.tmp 10)], argTypes := #[9] }, (some 11)⟩,
  ⟨none, .binOp .gtr 3 (.tmp 11) (.const (.int .i64 64)) 3, (some 12)⟩]
def sc8r5 : List SOp := [⟨none, .build 29 #[(1, (.const (.int .i64 3)))], (some 13)⟩,
  ⟨none, .store 29 (.tmp 2) (.tmp 13), none⟩]
def sc8r6 : List SOp := [⟨none, .move (.tmp 3), (some 14)⟩,
  ⟨none, .build 29 #[(0, (.tmp 14))], (some 15)⟩,
  ⟨none, .store 29 (.tmp 2) (.tmp 15), none⟩]
def sc8 : SC := (.seq (.reg sc8r0) (.seq (.seq (.reg sc8r1) (.cond (.tmp 6) (.seq (.reg sc8r2) .ret) .skip)) (.seq (.reg sc8r3) (.seq (.seq (.reg sc8r4) (.cond (.tmp 12) (.seq (.reg sc8r5) .ret) .skip)) (.seq (.reg sc8r6) .ret)))))
theorem sc8_ok : Tryz.f8.body.map tr = some sc8 := by kernel_rfl
theorem fn8 : cx.fn 8 = some Tryz.f8 := by kernel_rfl
theorem ext8 : cx.ext 8 = none := by kernel_rfl
theorem sc8_dst : okS 16 sc8 = true := by kernel_rfl
theorem ct8 {o args h P} (ho : o 8 args h = none) (ha : Nat.ble args.length 16 = true) (hw : xC cx o none sc8 (endP cx [.cell 2 29] P) (argT args 0 .lf) h [] none) : Ct cx o (.fn 8 args) h P :=
  ct_sc fn8 sc8_ok rfl rfl ho ha sc8_dst hw
-- understory/multi.Decode
def sc9r0 : List SOp := [⟨none, .assign (.const (.slice none 0 0)), (some 2)⟩,
  ⟨none, .assign (.const (.int .i64 0)), (some 3)⟩]
def sc9r1 : List SOp := [⟨none, .move (.tmp 0), (some 6)⟩,
  ⟨none, .call { callee := .builtin .len, args := #[(.tmp 6)], argTypes := #[9] }, (some 7)⟩,
  ⟨none, .binOp .gtr 3 (.tmp 7) (.const (.int .i64 64)) 3, (some 8)⟩]
def sc9r2 : List SOp := [⟨none, .assign (.const (.slice none 0 0)), (some 2)⟩,
  ⟨none, .assign (.const (.int .i64 2)), (some 3)⟩]
def sc9r3 : List SOp := [⟨none, .assign (.const (.slice none 0 0)), (some 4)⟩]
def sc9r4 : List SOp := [⟨none, .move (.tmp 0), (some 9)⟩,
  ⟨none, .binOp .neq 9 (.tmp 9) (.const (.string (ByteArray.mk #[]))) 9, (some 10)⟩]
def sc9r5 : List SOp := [⟨none, .move (.tmp 0), (some 11)⟩,
  ⟨none, .index 9 (.tmp 11) (.const (.int .i64 0)), (some 12)⟩,
  ⟨none, .convert 5 3 (.tmp 12), (some 13)⟩,
  ⟨none, .assign (.tmp 13), (some 5)⟩]
def sc9r6 : List SOp := [⟨none, .move (.tmp 5), (some 14)⟩,
  ⟨none, .move (.tmp 0), (some 15)⟩,
  ⟨none, .call { callee := .builtin .len, args := #[(.tmp 15)], argTypes := #[9] }, (some 16)⟩,
  ⟨none, .binOp .sub 3 (.tmp 16) (.const (.int .i64 1)) 3, (some 17)⟩,
  ⟨none, .binOp .gtr 3 (.tmp 14) (.tmp 17) 3, (some 18)⟩]
def sc9r7 : List SOp := [⟨none, .assign (.const (.slice none 0 0)), (some 2)⟩,
  ⟨none, .assign (.const (.int .i64 2)), (some 3)⟩]
def sc9r8 : List (SOp × DK) := [(⟨none, .move (.tmp 4), (some 19)⟩, .L 0 1 []),
  (⟨none, .move (.tmp 0), (some 20)⟩, .L 0 0 []),
  (⟨none, .move (.tmp 5), (some 21)⟩, .L 0 0 []),
  (⟨none, .binOp .add 3 (.const (.int .i64 1)) (.tmp 21) 3, (some 22)⟩, .L 0 0 []),
  (⟨none, .slice 9 (.tmp 20) (some (.const (.int .i64 1))) (some (.tmp 22)) none, (some 23)⟩, .L 0 0 []),
  (⟨none, .buildSlice 22 1 #[(0, (.tmp 23))], (some 24)⟩, .A [19, 20, 21, 22, 23, 24, 26, 27, 28, 29] [19, 26, 27, 28, 29]),
  (⟨none, .call { callee := .builtin .append, args := #[(.tmp 19), (.tmp 24)], argTypes := #[22, 22] }, (some 25)⟩, .A [19, 20, 21, 22, 23, 24, 25, 26, 27, 28, 29] [26, 27, 28, 29]),
  (⟨none, .move (.tmp 0), (some 26)⟩, .L 0 2 []),
  (⟨none, .move (.tmp 5), (some 27)⟩, .L 0 2 []),
  (⟨none, .binOp .add 3 (.const (.int .i64 1)) (.tmp 27) 3, (some 28)⟩, .L 0 2 []),
  (⟨none, .slice 9 (.tmp 26) (some (.tmp 28)) none none, (some 29)⟩, .L 0 2 []),
  (⟨none, .assign (.tmp 25), (some 4)⟩, .L 2 2 []),
  (⟨none, .assign (.tmp 29), (some 0)⟩, .L 2 2 [])]
def sc9d8 : SC := .draw sc9r8
theorem sc9d8_x {o rd Q t h d r} : xC cx o rd sc9d8 Q t h d r = xDraw cx o rd Q sc9r8 0 [h] [] [] t h d r := xC_draw (by kernel_rfl)
def sc9l9 : SC := (.seq (.seq (.reg sc9r4) (.cond (.tmp 10) .skip (.exit 0))) (.block 1 (.seq (.reg sc9r5) (.seq (.seq (.reg sc9r6) (.cond (.tmp 18) (.seq (.reg sc9r7) .ret) .skip)) sc9d8))))
def sc9r10 : List SOp := [⟨none, .move (.tmp 4), (some 30)⟩,
  ⟨none, .call { callee := .value (.func 32), args := #[(.tmp 30)], argTypes := #[22] }, (some 31)⟩,
  ⟨none, .unOp .not 4 (.tmp 31), (some 32)⟩]
def sc9r11 : List SOp := [⟨none, .assign (.const (.slice none 0 0)), (some 2)⟩,
  ⟨none, .assign (.const (.int .i64 2)), (some 3)⟩]
def sc9r12 : List SOp := [⟨none, .move (.tmp 4), (some 33)⟩,
  ⟨none, .assign (.tmp 33), (some 2)⟩,
  ⟨none, .assign (.const (.int .i64 0)), (some 3)⟩]
def sc9 : SC := (.seq (.reg sc9r0) (.seq (.seq (.reg sc9r1) (.cond (.tmp 8) (.seq (.reg sc9r2) .ret) .skip)) (.seq (.reg sc9r3) (.seq (.block 0 (.loop sc9l9)) (.seq (.seq (.reg sc9r10) (.cond (.tmp 32) (.seq (.reg sc9r11) .ret) .skip)) (.seq (.reg sc9r12) .ret))))))
theorem sc9_ok : Tryz.f9.body.map tr = some sc9 := by kernel_rfl
theorem fn9 : cx.fn 9 = some Tryz.f9 := by kernel_rfl
theorem ext9 : cx.ext 9 = none := by kernel_rfl
theorem sc9_dst : okS 34 sc9 = true := by kernel_rfl
theorem ct9 {o args h P} (ho : o 9 args h = none) (ha : Nat.ble args.length 34 = true) (hw : xC cx o none sc9 (endP cx [.tmp 2, .tmp 3] P) (argT args 0 .lf) h [] none) : Ct cx o (.fn 9 args) h P :=
  ct_sc fn9 sc9_ok rfl rfl ho ha sc9_dst hw
-- understory/understoryref10.Decode
def sc10r0 : List SOp := [⟨none, .alloc 34, (some 2)⟩]
def sc10r1 : List SOp := [⟨none, .assign (.const (.slice none 0 0)), (some 3)⟩]
def sc10r2 : List SOp := [⟨none, .assign (.const (.int .i64 0)), (some 4)⟩]
def sc10r3 : List SOp := [⟨none, .move (.tmp 4), (some 7)⟩,
  ⟨none, .move (.tmp 0), (some 8)⟩,
  ⟨none, .call { callee := .builtin .len, args := #[(.tmp 8)], argTypes := #[9] }, (some 9)⟩,
  ⟨none, .binOp .lss 3 (.tmp 7) (.tmp 9) 3, (some 10)⟩]
def sc10r4 : List SOp := [⟨none, .move (.tmp 0), (some 11)⟩,
  ⟨none, .move (.tmp 4), (some 12)⟩,
  ⟨none, .index 9 (.tmp 11) (.tmp 12), (some 13)⟩,
  ⟨none, .convert 5 3 (.tmp 13), (some 14)⟩,
  ⟨none, .assign (.tmp 14), (some 5)⟩]
def sc10r5 : List SOp := [⟨none, .move (.tmp 4), (some 15)⟩,
  ⟨none, .binOp .add 3 (.tmp 15) (.const (.int .i64 1)) 3, (some 16)⟩,
  ⟨none, .move (.tmp 5), (some 17)⟩,
  ⟨none, .binOp .add 3 (.tmp 16) (.tmp 17) 3, (some 18)⟩,
  ⟨none, .move (.tmp 0), (some 19)⟩,
  ⟨none, .call { callee := .builtin .len, args := #[(.tmp 19)], argTypes := #[9] }, (some 20)⟩,
  ⟨none, .binOp .gtr 3 (.tmp 18) (.tmp 20) 3, (some 21)⟩]
def sc10r6 : List SOp := [⟨none, .build 34 #[(1, (.const (.int .i64 2)))], (some 22)⟩,
  ⟨none, .store 34 (.tmp 2) (.tmp 22), none⟩]
def sc10r7 : List SOp := [⟨none, .move (.tmp 3), (some 23)⟩,
  ⟨none, .move (.tmp 0), (some 24)⟩,
  ⟨none, .move (.tmp 4), (some 25)⟩,
  ⟨none, .binOp .add 3 (.tmp 25) (.const (.int .i64 1)) 3, (some 26)⟩,
  ⟨none, .move (.tmp 4), (some 27)⟩,
  ⟨none, .binOp .add 3 (.tmp 27) (.const (.int .i64 1)) 3, (some 28)⟩,
  ⟨none, .move (.tmp 5), (some 29)⟩,
  ⟨none, .binOp .add 3 (.tmp 28) (.tmp 29) 3, (some 30)⟩,
  ⟨none, .slice 9 (.tmp 24) (some (.tmp 26)) (some (.tmp 30)) none, (some 31)⟩,
  ⟨none, .buildSlice 22 1 #[(0, (.tmp 31))], (some 32)⟩,
  ⟨none, .call { callee := .builtin .append, args := #[(.tmp 23), (.tmp 32)], argTypes := #[22, 22] }, (some 33)⟩,
  ⟨none, .assign (.tmp 33), (some 3)⟩]
def sc10r8 : List SOp := [⟨none, .move (.tmp 4), (some 34)⟩,
  ⟨none, .binOp .add 3 (.tmp 34) (.const (.int .i64 1)) 3, (some 35)⟩,
  ⟨none, .move (.tmp 5), (some 36)⟩,
  ⟨none, .binOp .add 3 (.tmp 35) (.tmp 36) 3, (some 37)⟩,
  ⟨none, .assign (.tmp 37), (some 4)⟩]
def sc10l9 : SC := (.seq (.seq (.reg sc10r3) (.cond (.tmp 10) .skip (.exit 0))) (.block 1 (.seq (.reg sc10r4) (.seq (.seq (.reg sc10r5) (.cond (.tmp 21) (.seq (.reg sc10r6) .ret) .skip)) (.seq (.reg sc10r7) (.reg sc10r8))))))
def sc10r10 : List SOp := [⟨none, .move (.tmp 3), (some 38)⟩,
  ⟨none, .call { callee := .value (.func 8), args := #[(.tmp 38)], argTypes := #[22] }, (some 39)⟩,
  ⟨none, .alloc 29, (some 6)⟩,
  ⟨none, .store 29 (.tmp 6) (.tmp 39), none⟩]
def sc10r11 : List SOp := [⟨none, .fieldAddr 29 (.tmp 6) 1, (some 40)⟩,
  ⟨none, .load 25 (.tmp 40), (some 41)⟩,
  ⟨none, .binOp .neq 25 (.tmp 41) (.const (.int .i64 0)) 25, (some 42)⟩,
  ⟨none, .move (.tmp 42), (some 43)⟩,
  ⟨(some (some 43, false)), .fieldAddr 29 (.tmp 6) 0, (some 44)⟩,
  ⟨(some (some 43, false)), .load 9 (.tmp 44), (some 45)⟩,
  ⟨(some (some 43, false)), .move (.tmp 0), (some 46)⟩,
  ⟨(some (some 43, false)), .binOp .neq 9 (.tmp 45) (.tmp 46) 9, (some 47)⟩,
  ⟨none, .pick (.tmp 43) (.const (.bool true)) (.tmp 47), (some 48)⟩]
def sc10r12 : List SOp := [⟨none, .build 34 #[(1, (.const (.int .i64 2)))], (some 49)⟩,
  ⟨none, .store 34 (.tmp 2) (.tmp 49), none⟩]
def sc10r13 : List SOp := [⟨none, .move (.tmp 3), (some 50)⟩,
  ⟨none, .build 34 #[(0, (.tmp 50))], (some 51)⟩,
  ⟨none, .store 34 (.tmp 2) (.tmp 51), none⟩]
def sc10 : SC := (.seq (.reg sc10r0) (.seq (.reg sc10r1) (.seq (.seq (.reg sc10r2) (.block 0 (.loop sc10l9))) (.seq (.reg sc10r10) (.seq (.seq (.reg sc10r11) (.cond (.tmp 48) (.seq (.reg sc10r12) .ret) .skip)) (.seq (.reg sc10r13) .ret))))))
theorem sc10_ok : Tryz.f10.body.map tr = some sc10 := by kernel_rfl
theorem fn10 : cx.fn 10 = some Tryz.f10 := by kernel_rfl
theorem ext10 : cx.ext 10 = none := by kernel_rfl
theorem sc10_dst : okS 52 sc10 = true := by kernel_rfl
theorem ct10 {o args h P} (ho : o 10 args h = none) (ha : Nat.ble args.length 52 = true) (hw : xC cx o none sc10 (endP cx [.cell 2 34] P) (argT args 0 .lf) h [] none) : Ct cx o (.fn 10 args) h P :=
  ct_sc fn10 sc10_ok rfl rfl ho ha sc10_dst hw
-- understory/understoryref10.SameTexts
def sc11r0 : List SOp := [⟨none, .assign (.const (.bool false)), (some 4)⟩]
def sc11r1 : List SOp := [⟨none, .move (.tmp 0), (some 6)⟩,
  ⟨none, .call { callee := .builtin .len, args := #[(.tmp 6)], argTypes := #[22] }, (some 7)⟩,
  ⟨none, .move (.tmp 1), (some 8)⟩,
  ⟨none, .call { callee := .builtin .len, args := #[(.tmp 8)], argTypes := #[22] }, (some 9)⟩,
  ⟨none, .binOp .neq 3 (.tmp 7) (.tmp 9) 3, (some 10)⟩]
def sc11r2 : List SOp := [⟨none, .assign (.const (.bool false)), (some 4)⟩]
def sc11r3 : List SOp := [⟨none, .assign (.const (.int .i64 0)), (some 5)⟩]
def sc11r4 : List SOp := [⟨none, .move (.tmp 5), (some 11)⟩,
  ⟨none, .move (.tmp 0), (some 12)⟩,
  ⟨none, .call { callee := .builtin .len, args := #[(.tmp 12)], argTypes := #[22] }, (some 13)⟩,
  ⟨none, .binOp .lss 3 (.tmp 11) (.tmp 13) 3, (some 14)⟩]
def sc11r5 : List (SOp × DK) := [(⟨none, .move (.tmp 0), (some 17)⟩, .L 0 0 []),
  (⟨none, .move (.tmp 5), (some 18)⟩, .L 0 0 []),
  (⟨none, .indexAddr 22 (.tmp 17) (.tmp 18), (some 19)⟩, .L 0 0 []),
  (⟨none, .load 9 (.tmp 19), (some 20)⟩, .L 0 0 []),
  (⟨none, .move (.tmp 1), (some 21)⟩, .L 0 0 []),
  (⟨none, .move (.tmp 5), (some 22)⟩, .L 0 0 []),
  (⟨none, .indexAddr 22 (.tmp 21) (.tmp 22), (some 23)⟩, .L 0 0 []),
  (⟨none, .load 9 (.tmp 23), (some 24)⟩, .L 0 0 []),
  (⟨none, .binOp .neq 9 (.tmp 20) (.tmp 24) 9, (some 25)⟩, .L 0 0 [])]
def sc11d5 : SC := .draw sc11r5
theorem sc11d5_x {o rd Q t h d r} : xC cx o rd sc11d5 Q t h d r = xDraw cx o rd Q sc11r5 0 [h] [] [] t h d r := xC_draw (by kernel_rfl)
def sc11r6 : List SOp := [⟨none, .assign (.const (.bool false)), (some 4)⟩]
def sc11r7 : List SOp := [⟨none, .move (.tmp 5), (some 15)⟩,
  ⟨none, .binOp .add 3 (.tmp 15) (.const (.int .i64 1)) 3, (some 16)⟩,
  ⟨none, .assign (.tmp 16), (some 5)⟩]
def sc11l8 : SC := (.seq (.seq (.reg sc11r4) (.cond (.tmp 14) .skip (.exit 0))) (.seq (.block 1 (.seq sc11d5 (.cond (.tmp 25) (.seq (.reg sc11r6) .ret) .skip))) (.reg sc11r7)))
def sc11r9 : List SOp := [⟨none, .assign (.const (.bool true)), (some 4)⟩]
def sc11 : SC := (.seq (.reg sc11r0) (.seq (.seq (.reg sc11r1) (.cond (.tmp 10) (.seq (.reg sc11r2) .ret) .skip)) (.seq (.seq (.reg sc11r3) (.block 0 (.loop sc11l8))) (.seq (.reg sc11r9) .ret))))
theorem sc11_ok : Tryz.f11.body.map tr = some sc11 := by kernel_rfl
theorem fn11 : cx.fn 11 = some Tryz.f11 := by kernel_rfl
theorem ext11 : cx.ext 11 = none := by kernel_rfl
theorem sc11_dst : okS 26 sc11 = true := by kernel_rfl
theorem ct11 {o args h P} (ho : o 11 args h = none) (ha : Nat.ble args.length 26 = true) (hw : xC cx o none sc11 (endP cx [.tmp 4] P) (argT args 0 .lf) h [] none) : Ct cx o (.fn 11 args) h P :=
  ct_sc fn11 sc11_ok rfl rfl ho ha sc11_dst hw
-- understory/multi.isSet
def sc32r0 : List SOp := [⟨none, .assign (.const (.bool false)), (some 2)⟩]
def sc32r1 : List SOp := [⟨none, .move (.tmp 0), (some 5)⟩,
  ⟨none, .call { callee := .builtin .len, args := #[(.tmp 5)], argTypes := #[22] }, (some 6)⟩,
  ⟨none, .move (.const (.int .i64 0)), (some 7)⟩]
def sc32r2 : List SOp := [⟨none, .binOp .lss 3 (.tmp 7) (.tmp 6) 3, (some 8)⟩]
def sc32r3 : List SOp := [⟨none, .move (.tmp 7), (some 9)⟩,
  ⟨none, .indexAddr 22 (.tmp 5) (.tmp 7), (some 10)⟩,
  ⟨none, .load 9 (.tmp 10), (some 11)⟩,
  ⟨none, .assign (.tmp 9), (some 3)⟩,
  ⟨none, .assign (.tmp 11), (some 4)⟩]
def sc32r4 : List SOp := [⟨none, .move (.tmp 4), (some 12)⟩,
  ⟨none, .call { callee := .value (.func 65), args := #[(.tmp 12)], argTypes := #[9] }, (some 13)⟩,
  ⟨none, .unOp .not 4 (.tmp 13), (some 14)⟩,
  ⟨none, .move (.tmp 14), (some 15)⟩,
  ⟨(some (some 15, false)), .move (.tmp 3), (some 16)⟩,
  ⟨(some (some 15, false)), .binOp .gtr 3 (.tmp 16) (.const (.int .i64 0)) 3, (some 17)⟩,
  ⟨(some (some 15, false)), .move (.tmp 17), (some 18)⟩,
  ⟨(some (some 18, true)), .move (.tmp 4), (some 19)⟩,
  ⟨(some (some 18, true)), .move (.tmp 0), (some 20)⟩,
  ⟨(some (some 18, true)), .move (.tmp 3), (some 21)⟩,
  ⟨(some (some 18, true)), .binOp .sub 3 (.tmp 21) (.const (.int .i64 1)) 3, (some 22)⟩,
  ⟨(some (some 18, true)), .indexAddr 22 (.tmp 20) (.tmp 22), (some 23)⟩,
  ⟨(some (some 18, true)), .load 9 (.tmp 23), (some 24)⟩,
  ⟨(some (some 18, true)), .binOp .leq 9 (.tmp 19) (.tmp 24) 9, (some 25)⟩,
  ⟨(some (some 15, false)), .pick (.tmp 18) (.tmp 25) (.const (.bool false)), (some 26)⟩,
  ⟨none, .pick (.tmp 15) (.const (.bool true)) (.tmp 26), (some 27)⟩]
def sc32r5 : List SOp := [⟨none, .assign (.const (.bool false)), (some 2)⟩]
def sc32r6 : List SOp := [⟨none, .binOp .add 3 (.tmp 7) (.const (.int .i64 1)) 3, (some 28)⟩,
  ⟨none, .move (.tmp 28), (some 7)⟩]
def sc32l7 : SC := (.seq (.reg sc32r2) (.seq (.cond (.tmp 8) .skip (.exit 0)) (.seq (.block 1 (.seq (.reg sc32r3) (.seq (.reg sc32r4) (.cond (.tmp 27) (.seq (.reg sc32r5) .ret) .skip)))) (.reg sc32r6))))
def sc32r8 : List SOp := [⟨none, .move (.tmp 0), (some 29)⟩,
  ⟨none, .call { callee := .builtin .len, args := #[(.tmp 29)], argTypes := #[22] }, (some 30)⟩,
  ⟨none, .binOp .gtr 3 (.tmp 30) (.const (.int .i64 0)) 3, (some 31)⟩,
  ⟨none, .assign (.tmp 31), (some 2)⟩]
def sc32 : SC := (.seq (.reg sc32r0) (.seq (.seq (.reg sc32r1) (.block 0 (.loop sc32l7))) (.seq (.reg sc32r8) .ret)))
theorem sc32_ok : Tryz.f32.body.map tr = some sc32 := by kernel_rfl
theorem fn32 : cx.fn 32 = some Tryz.f32 := by kernel_rfl
theorem ext32 : cx.ext 32 = none := by kernel_rfl
theorem sc32_dst : okS 32 sc32 = true := by kernel_rfl
theorem ct32 {o args h P} (ho : o 32 args h = none) (ha : Nat.ble args.length 32 = true) (hw : xC cx o none sc32 (endP cx [.tmp 2] P) (argT args 0 .lf) h [] none) : Ct cx o (.fn 32 args) h P :=
  ct_sc fn32 sc32_ok rfl rfl ho ha sc32_dst hw
-- understory/multi.encoded
def sc33r0 : List SOp := [⟨none, .assign (.const (.string (ByteArray.mk #[]))), (some 2)⟩]
def sc33r1 : List SOp := [⟨none, .assign (.const (.slice none 0 0)), (some 3)⟩]
def sc33r2 : List SOp := [⟨none, .move (.tmp 0), (some 6)⟩,
  ⟨none, .call { callee := .builtin .len, args := #[(.tmp 6)], argTypes := #[22] }, (some 7)⟩,
  ⟨none, .move (.const (.int .i64 0)), (some 8)⟩]
def sc33r3 : List SOp := [⟨none, .binOp .lss 3 (.tmp 8) (.tmp 7) 3, (some 9)⟩]
def sc33r4 : List SOp := [⟨none, .indexAddr 22 (.tmp 6) (.tmp 8), (some 10)⟩,
  ⟨none, .load 9 (.tmp 10), (some 11)⟩,
  ⟨none, .assign (.tmp 11), (some 5)⟩]
def sc33r5 : List SOp := [⟨none, .move (.tmp 3), (some 12)⟩,
  ⟨none, .move (.tmp 5), (some 13)⟩,
  ⟨none, .call { callee := .builtin .len, args := #[(.tmp 13)], argTypes := #[9] }, (some 14)⟩,
  ⟨none, .convert 3 5 (.tmp 14), (some 15)⟩,
  ⟨none, .buildSlice 130 1 #[(0, (.tmp 15))], (some 16)⟩,
  ⟨none, .call { callee := .builtin .append, args := #[(.tmp 12), (.tmp 16)], argTypes := #[130, 130] }, (some 17)⟩,
  ⟨none, .move (.tmp 5), (some 18)⟩,
  ⟨none, .call { callee := .builtin .append, args := #[(.tmp 17), (.tmp 18)], argTypes := #[130, 9] }, (some 19)⟩,
  ⟨none, .assign (.tmp 19), (some 3)⟩]
def sc33r6 : List SOp := [⟨none, .binOp .add 3 (.tmp 8) (.const (.int .i64 1)) 3, (some 20)⟩,
  ⟨none, .move (.tmp 20), (some 8)⟩]
def sc33l7 : SC := (.seq (.reg sc33r3) (.seq (.cond (.tmp 9) .skip (.exit 0)) (.seq (.block 1 (.seq (.reg sc33r4) (.reg sc33r5))) (.reg sc33r6))))
def sc33r8 : List SOp := [⟨none, .move (.tmp 3), (some 21)⟩,
  ⟨none, .convert 130 9 (.tmp 21), (some 22)⟩,
  ⟨none, .assign (.tmp 22), (some 2)⟩]
def sc33 : SC := (.seq (.reg sc33r0) (.seq (.reg sc33r1) (.seq (.seq (.reg sc33r2) (.block 0 (.loop sc33l7))) (.seq (.reg sc33r8) .ret))))
theorem sc33_ok : Tryz.f33.body.map tr = some sc33 := by kernel_rfl
theorem fn33 : cx.fn 33 = some Tryz.f33 := by kernel_rfl
theorem ext33 : cx.ext 33 = none := by kernel_rfl
theorem sc33_dst : okS 23 sc33 = true := by kernel_rfl
theorem ct33 {o args h P} (ho : o 33 args h = none) (ha : Nat.ble args.length 23 = true) (hw : xC cx o none sc33 (endP cx [.tmp 2] P) (argT args 0 .lf) h [] none) : Ct cx o (.fn 33 args) h P :=
  ct_sc fn33 sc33_ok rfl rfl ho ha sc33_dst hw
-- understory/understoryref10.IsSet
def sc34r0 : List SOp := [⟨none, .assign (.const (.bool false)), (some 2)⟩]
def sc34r1 : List SOp := [⟨none, .assign (.const (.int .i64 0)), (some 3)⟩]
def sc34r2 : List SOp := [⟨none, .move (.tmp 3), (some 4)⟩,
  ⟨none, .move (.tmp 0), (some 5)⟩,
  ⟨none, .call { callee := .builtin .len, args := #[(.tmp 5)], argTypes := #[22] }, (some 6)⟩,
  ⟨none, .binOp .lss 3 (.tmp 4) (.tmp 6) 3, (some 7)⟩]
def sc34r3 : List (SOp × DK) := [(⟨none, .move (.tmp 0), (some 10)⟩, .L 0 0 []),
  (⟨none, .move (.tmp 3), (some 11)⟩, .L 0 0 []),
  (⟨none, .indexAddr 22 (.tmp 10) (.tmp 11), (some 12)⟩, .L 0 0 []),
  (⟨none, .load 9 (.tmp 12), (some 13)⟩, .L 0 0 []),
  (⟨none, .call { callee := .value (.func 89), args := #[(.tmp 13)], argTypes := #[9] }, (some 14)⟩, .A [10, 11, 12, 13, 14] []),
  (⟨none, .unOp .not 4 (.tmp 14), (some 15)⟩, .L 1 1 []),
  (⟨none, .move (.tmp 15), (some 16)⟩, .L 1 1 []),
  (⟨(some (some 16, false)), .move (.tmp 3), (some 17)⟩, .L 1 1 []),
  (⟨(some (some 16, false)), .binOp .gtr 3 (.tmp 17) (.const (.int .i64 0)) 3, (some 18)⟩, .L 1 1 []),
  (⟨(some (some 16, false)), .move (.tmp 18), (some 19)⟩, .L 1 1 []),
  (⟨(some (some 19, true)), .move (.tmp 0), (some 20)⟩, .L 1 1 []),
  (⟨(some (some 19, true)), .move (.tmp 3), (some 21)⟩, .L 1 1 []),
  (⟨(some (some 19, true)), .indexAddr 22 (.tmp 20) (.tmp 21), (some 22)⟩, .L 1 1 []),
  (⟨(some (some 19, true)), .load 9 (.tmp 22), (some 23)⟩, .L 1 1 []),
  (⟨(some (some 19, true)), .move (.tmp 0), (some 24)⟩, .L 1 1 []),
  (⟨(some (some 19, true)), .move (.tmp 3), (some 25)⟩, .L 1 1 []),
  (⟨(some (some 19, true)), .binOp .sub 3 (.tmp 25) (.const (.int .i64 1)) 3, (some 26)⟩, .L 1 1 []),
  (⟨(some (some 19, true)), .indexAddr 22 (.tmp 24) (.tmp 26), (some 27)⟩, .L 1 1 []),
  (⟨(some (some 19, true)), .load 9 (.tmp 27), (some 28)⟩, .L 1 1 []),
  (⟨(some (some 19, true)), .binOp .leq 9 (.tmp 23) (.tmp 28) 9, (some 29)⟩, .L 1 1 []),
  (⟨(some (some 16, false)), .pick (.tmp 19) (.tmp 29) (.const (.bool false)), (some 30)⟩, .L 1 1 []),
  (⟨none, .pick (.tmp 16) (.const (.bool true)) (.tmp 30), (some 31)⟩, .L 1 1 [])]
def sc34d3 : SC := .draw sc34r3
theorem sc34d3_x {o rd Q t h d r} : xC cx o rd sc34d3 Q t h d r = xDraw cx o rd Q sc34r3 0 [h] [] [] t h d r := xC_draw (by kernel_rfl)
def sc34r4 : List SOp := [⟨none, .assign (.const (.bool false)), (some 2)⟩]
def sc34r5 : List SOp := [⟨none, .move (.tmp 3), (some 8)⟩,
  ⟨none, .binOp .add 3 (.tmp 8) (.const (.int .i64 1)) 3, (some 9)⟩,
  ⟨none, .assign (.tmp 9), (some 3)⟩]
def sc34l6 : SC := (.seq (.seq (.reg sc34r2) (.cond (.tmp 7) .skip (.exit 0))) (.seq (.block 1 (.seq sc34d3 (.cond (.tmp 31) (.seq (.reg sc34r4) .ret) .skip))) (.reg sc34r5)))
def sc34r7 : List SOp := [⟨none, .move (.tmp 0), (some 32)⟩,
  ⟨none, .call { callee := .builtin .len, args := #[(.tmp 32)], argTypes := #[22] }, (some 33)⟩,
  ⟨none, .binOp .gtr 3 (.tmp 33) (.const (.int .i64 0)) 3, (some 34)⟩,
  ⟨none, .assign (.tmp 34), (some 2)⟩]
def sc34 : SC := (.seq (.reg sc34r0) (.seq (.seq (.reg sc34r1) (.block 0 (.loop sc34l6))) (.seq (.reg sc34r7) .ret)))
theorem sc34_ok : Tryz.f34.body.map tr = some sc34 := by kernel_rfl
theorem fn34 : cx.fn 34 = some Tryz.f34 := by kernel_rfl
theorem ext34 : cx.ext 34 = none := by kernel_rfl
theorem sc34_dst : okS 35 sc34 = true := by kernel_rfl
theorem ct34 {o args h P} (ho : o 34 args h = none) (ha : Nat.ble args.length 35 = true) (hw : xC cx o none sc34 (endP cx [.tmp 2] P) (argT args 0 .lf) h [] none) : Ct cx o (.fn 34 args) h P :=
  ct_sc fn34 sc34_ok rfl rfl ho ha sc34_dst hw
-- understory/understoryref10.written
def sc35r0 : List SOp := [⟨none, .assign (.const (.string (ByteArray.mk #[]))), (some 2)⟩]
def sc35r1 : List SOp := [⟨none, .assign (.const (.string (ByteArray.mk #[]))), (some 3)⟩]
def sc35r2 : List SOp := [⟨none, .assign (.const (.int .i64 0)), (some 4)⟩]
def sc35r3 : List SOp := [⟨none, .move (.tmp 4), (some 5)⟩,
  ⟨none, .move (.tmp 0), (some 6)⟩,
  ⟨none, .call { callee := .builtin .len, args := #[(.tmp 6)], argTypes := #[22] }, (some 7)⟩,
  ⟨none, .binOp .lss 3 (.tmp 5) (.tmp 7) 3, (some 8)⟩]
def sc35r4 : List (SOp × DK) := [(⟨none, .move (.tmp 3), (some 11)⟩, .L 0 1 []),
  (⟨none, .move (.tmp 0), (some 12)⟩, .L 0 0 []),
  (⟨none, .move (.tmp 4), (some 13)⟩, .L 0 0 []),
  (⟨none, .indexAddr 22 (.tmp 12) (.tmp 13), (some 14)⟩, .L 0 0 []),
  (⟨none, .load 9 (.tmp 14), (some 15)⟩, .L 0 0 []),
  (⟨none, .call { callee := .builtin .len, args := #[(.tmp 15)], argTypes := #[9] }, (some 16)⟩, .L 0 0 []),
  (⟨none, .convert 3 5 (.tmp 16), (some 17)⟩, .L 0 0 []),
  (⟨none, .buildSlice 130 1 #[(0, (.tmp 17))], (some 18)⟩, .A [11, 12, 13, 14, 15, 16, 17, 18, 21, 22, 23, 24] [11, 21, 22, 23, 24]),
  (⟨none, .convert 130 9 (.tmp 18), (some 19)⟩, .L 1 1 []),
  (⟨none, .binOp .add 9 (.tmp 11) (.tmp 19) 9, (some 20)⟩, .L 1 1 []),
  (⟨none, .move (.tmp 0), (some 21)⟩, .L 0 1 []),
  (⟨none, .move (.tmp 4), (some 22)⟩, .L 0 1 []),
  (⟨none, .indexAddr 22 (.tmp 21) (.tmp 22), (some 23)⟩, .L 0 1 []),
  (⟨none, .load 9 (.tmp 23), (some 24)⟩, .L 0 1 []),
  (⟨none, .binOp .add 9 (.tmp 20) (.tmp 24) 9, (some 25)⟩, .L 1 1 []),
  (⟨none, .assign (.tmp 25), (some 3)⟩, .L 1 1 [])]
def sc35d4 : SC := .draw sc35r4
theorem sc35d4_x {o rd Q t h d r} : xC cx o rd sc35d4 Q t h d r = xDraw cx o rd Q sc35r4 0 [h] [] [] t h d r := xC_draw (by kernel_rfl)
def sc35r5 : List SOp := [⟨none, .move (.tmp 4), (some 9)⟩,
  ⟨none, .binOp .add 3 (.tmp 9) (.const (.int .i64 1)) 3, (some 10)⟩,
  ⟨none, .assign (.tmp 10), (some 4)⟩]
def sc35l6 : SC := (.seq (.seq (.reg sc35r3) (.cond (.tmp 8) .skip (.exit 0))) (.seq (.block 1 sc35d4) (.reg sc35r5)))
def sc35r7 : List SOp := [⟨none, .move (.tmp 3), (some 26)⟩,
  ⟨none, .assign (.tmp 26), (some 2)⟩]
def sc35 : SC := (.seq (.reg sc35r0) (.seq (.reg sc35r1) (.seq (.seq (.reg sc35r2) (.block 0 (.loop sc35l6))) (.seq (.reg sc35r7) .ret))))
theorem sc35_ok : Tryz.f35.body.map tr = some sc35 := by kernel_rfl
theorem fn35 : cx.fn 35 = some Tryz.f35 := by kernel_rfl
theorem ext35 : cx.ext 35 = none := by kernel_rfl
theorem sc35_dst : okS 27 sc35 = true := by kernel_rfl
theorem ct35 {o args h P} (ho : o 35 args h = none) (ha : Nat.ble args.length 27 = true) (hw : xC cx o none sc35 (endP cx [.tmp 2] P) (argT args 0 .lf) h [] none) : Ct cx o (.fn 35 args) h P :=
  ct_sc fn35 sc35_ok rfl rfl ho ha sc35_dst hw
-- understory/multi.isKey
def sc65r0 : List SOp := [⟨none, .assign (.const (.bool false)), (some 2)⟩]
def sc65r1 : List SOp := [⟨none, .move (.tmp 0), (some 3)⟩,
  ⟨none, .call { callee := .builtin .len, args := #[(.tmp 3)], argTypes := #[9] }, (some 4)⟩,
  ⟨none, .binOp .geq 3 (.tmp 4) (.const (.int .i64 1)) 3, (some 5)⟩,
  ⟨none, .move (.tmp 5), (some 6)⟩,
  ⟨(some (some 6, true)), .move (.tmp 0), (some 7)⟩,
  ⟨(some (some 6, true)), .call { callee := .builtin .len, args := #[(.tmp 7)], argTypes := #[9] }, (some 8)⟩,
  ⟨(some (some 6, true)), .binOp .leq 3 (.tmp 8) (.const (.int .i64 48)) 3, (some 9)⟩,
  ⟨none, .pick (.tmp 6) (.tmp 9) (.const (.bool false)), (some 10)⟩,
  ⟨none, .assign (.tmp 10), (some 2)⟩]
def sc65 : SC := (.seq (.reg sc65r0) (.seq (.reg sc65r1) .ret))
theorem sc65_ok : Tryz.f65.body.map tr = some sc65 := by kernel_rfl
theorem fn65 : cx.fn 65 = some Tryz.f65 := by kernel_rfl
theorem ext65 : cx.ext 65 = none := by kernel_rfl
theorem sc65_dst : okS 11 sc65 = true := by kernel_rfl
theorem ct65 {o args h P} (ho : o 65 args h = none) (ha : Nat.ble args.length 11 = true) (hw : xC cx o none sc65 (endP cx [.tmp 2] P) (argT args 0 .lf) h [] none) : Ct cx o (.fn 65 args) h P :=
  ct_sc fn65 sc65_ok rfl rfl ho ha sc65_dst hw
-- understory/understoryref10.isKey
def sc89r0 : List SOp := [⟨none, .assign (.const (.bool false)), (some 2)⟩]
def sc89r1 : List SOp := [⟨none, .move (.tmp 0), (some 3)⟩,
  ⟨none, .call { callee := .builtin .len, args := #[(.tmp 3)], argTypes := #[9] }, (some 4)⟩,
  ⟨none, .binOp .geq 3 (.tmp 4) (.const (.int .i64 1)) 3, (some 5)⟩,
  ⟨none, .move (.tmp 5), (some 6)⟩,
  ⟨(some (some 6, true)), .move (.tmp 0), (some 7)⟩,
  ⟨(some (some 6, true)), .call { callee := .builtin .len, args := #[(.tmp 7)], argTypes := #[9] }, (some 8)⟩,
  ⟨(some (some 6, true)), .binOp .leq 3 (.tmp 8) (.const (.int .i64 48)) 3, (some 9)⟩,
  ⟨none, .pick (.tmp 6) (.tmp 9) (.const (.bool false)), (some 10)⟩,
  ⟨none, .assign (.tmp 10), (some 2)⟩]
def sc89 : SC := (.seq (.reg sc89r0) (.seq (.reg sc89r1) .ret))
theorem sc89_ok : Tryz.f89.body.map tr = some sc89 := by kernel_rfl
theorem fn89 : cx.fn 89 = some Tryz.f89 := by kernel_rfl
theorem ext89 : cx.ext 89 = none := by kernel_rfl
theorem sc89_dst : okS 11 sc89 = true := by kernel_rfl
theorem ct89 {o args h P} (ho : o 89 args h = none) (ha : Nat.ble args.length 11 = true) (hw : xC cx o none sc89 (endP cx [.tmp 2] P) (argT args 0 .lf) h [] none) : Ct cx o (.fn 89 args) h P :=
  ct_sc fn89 sc89_ok rfl rfl ho ha sc89_dst hw
end Go.Proofs
set_option maxRecDepth 100000
namespace Go.Proofs
open Go Go.Ai

theorem u3 : cx.under 3 = some (.int .i64) := by kernel_rfl
theorem s3 : sizeOf? cx 3 = some 1 := by kernel_rfl
theorem a3 : aggT? cx 3 = some false := by kernel_rfl
theorem z3 : zero? cx 3 = some (.int .i64 0) := by kernel_rfl
theorem room3 : room cx 3 1000000000 = true := by kernel_rfl
theorem u4 : cx.under 4 = some .bool := by kernel_rfl
theorem s4 : sizeOf? cx 4 = some 1 := by kernel_rfl
theorem a4 : aggT? cx 4 = some false := by kernel_rfl
theorem z4 : zero? cx 4 = some (.bool false) := by kernel_rfl
theorem room4 : room cx 4 1000000000 = true := by kernel_rfl
theorem u5 : cx.under 5 = some (.int .u8) := by kernel_rfl
theorem s5 : sizeOf? cx 5 = some 1 := by kernel_rfl
theorem a5 : aggT? cx 5 = some false := by kernel_rfl
theorem z5 : zero? cx 5 = some (.int .u8 0) := by kernel_rfl
theorem room5 : room cx 5 1000000000 = true := by kernel_rfl
theorem u9 : cx.under 9 = some .string := by kernel_rfl
theorem s9 : sizeOf? cx 9 = some 1 := by kernel_rfl
theorem a9 : aggT? cx 9 = some false := by kernel_rfl
theorem z9 : zero? cx 9 = some (.str []) := by kernel_rfl
theorem room9 : room cx 9 1000000000 = true := by kernel_rfl
theorem u22 : cx.under 22 = some (.slice 9) := by kernel_rfl
theorem s22 : sizeOf? cx 22 = some 1 := by kernel_rfl
theorem a22 : aggT? cx 22 = some false := by kernel_rfl
theorem z22 : zero? cx 22 = some (.nils) := by kernel_rfl
theorem room22 : room cx 22 1000000000 = true := by kernel_rfl
theorem u25 : cx.under 25 = some (.int .i64) := by kernel_rfl
theorem s25 : sizeOf? cx 25 = some 1 := by kernel_rfl
theorem a25 : aggT? cx 25 = some false := by kernel_rfl
theorem z25 : zero? cx 25 = some (.int .i64 0) := by kernel_rfl
theorem room25 : room cx 25 1000000000 = true := by kernel_rfl
theorem s29 : sizeOf? cx 29 = some 2 := by kernel_rfl
theorem a29 : aggT? cx 29 = some true := by kernel_rfl
theorem f29_0 : (fieldOf cx 29 0).map (fun f => (f.type, f.offset)) = some (9, 0) := by kernel_rfl
theorem f29_1 : (fieldOf cx 29 1).map (fun f => (f.type, f.offset)) = some (25, 1) := by kernel_rfl
theorem s34 : sizeOf? cx 34 = some 2 := by kernel_rfl
theorem a34 : aggT? cx 34 = some true := by kernel_rfl
theorem f34_0 : (fieldOf cx 34 0).map (fun f => (f.type, f.offset)) = some (22, 0) := by kernel_rfl
theorem f34_1 : (fieldOf cx 34 1).map (fun f => (f.type, f.offset)) = some (25, 1) := by kernel_rfl
theorem u130 : cx.under 130 = some (.slice 5) := by kernel_rfl
theorem s130 : sizeOf? cx 130 = some 1 := by kernel_rfl
theorem a130 : aggT? cx 130 = some false := by kernel_rfl
theorem z130 : zero? cx 130 = some (.nils) := by kernel_rfl
theorem room130 : room cx 130 1000000000 = true := by kernel_rfl
end Go.Proofs
set_option maxRecDepth 100000
namespace Go.Proofs
open Go Go.Ai

/-- The memory of these functions holds no contracts. -/
def Free (o : Orc) : Prop := ∀ f args h, f ≠ 6 → o f args h = none

def isKeyB (s : List UInt8) : Bool := decide (1 ≤ s.length) && decide (s.length ≤ 48)

theorem isKey65 {o : Orc} (ho : Free o) (s : List UInt8) : Ct cx o (.fn 65 [.p (.str s)]) [] (fun e _ => e = .ret (.p (.bool (isKeyB s)))) := by
  refine ct65 (ho _ _ _ (by decide)) rfl ?_
  by_cases h1 : (1 : Int) ≤ (s.length : Int)
  · simp only [sc65, sc65r0, sc65r1, u3, u4, u5, u9, u22, u25, u130, s3, s4, s5, s9, s22, s25, s29, s34, s130, a3, a4, a5, a9, a22, a25, a29, a34, a130, ↓xC_skip, ↓xC_reg, ↓xC_seq, ↓seqP_n, ↓seqP_ret, ↓seqP_pan, ↓seqP_exit, ↓xC_cond, ↓condW_true, ↓condW_false, ↓xC_block, ↓blockP_n, ↓blockP_ret, ↓blockP_pan, ↓blockP_exit, ↓loopP_n, ↓loopP_ret, ↓loopP_pan, ↓loopP_exit, ↓xC_exit, ↓xC_ret, ↓xOps_nil, ↓xOps_cons, ↓xOps_guard, ↓gW_tt, ↓gW_tf, ↓gW_ft, ↓gW_ff, ↓gW_un, ↓opW_w, ↓opW_ws, ↓opW_wn, ↓opW_wh, ↓opW_value, ↓opW_panic, put_some, put_none, target_fn, ev_tmp, ev_func, ev_int, ev_bool, ev_str, ev_nils, ev_nilp, ev_nili, ev_nilf, evs_nil, evs_cons, evp_nil, evp_cons, evo_none, evo_some, opD_move, opD_assign, opD_pick, pickW_true, pickW_false, pickW_bool, opD_bin, opD_not, opD_conv, opD_load, opD_store, opD_indexAddr, opD_index, opD_fieldAddr, opD_field, opD_extract, opD_len', len_str, len_nils, len_vec, len_sl, opD_alloc, opD_append', opD_buildSlice, opD_build, opD_slice', ofO_some, lss_i, leq_i, gtr_i, geq_i, eql_i, neq_i, add_i, sub_i, mul_i, not_b, eql_s, neq_s, lss_s, leq_s, end_ret, end_n, end_pan, Tm.get_set, argT, Nat.reduceEqDiff, Nat.reduceAdd, if_true, if_false, cond_true, cond_false, Bool.true_eq_false, Bool.false_eq_true, Bool.not_true, Bool.not_false, reduceCtorEq, List.toList_toArray, Nat.reduceLT, results?, vals, ite_true, ite_false, h1, decide_true]
    congr 3
    unfold isKeyB
    rw [Bool.eq_iff_iff]; simp; omega
  · simp only [sc65, sc65r0, sc65r1, u3, u4, u5, u9, u22, u25, u130, s3, s4, s5, s9, s22, s25, s29, s34, s130, a3, a4, a5, a9, a22, a25, a29, a34, a130, ↓xC_skip, ↓xC_reg, ↓xC_seq, ↓seqP_n, ↓seqP_ret, ↓seqP_pan, ↓seqP_exit, ↓xC_cond, ↓condW_true, ↓condW_false, ↓xC_block, ↓blockP_n, ↓blockP_ret, ↓blockP_pan, ↓blockP_exit, ↓loopP_n, ↓loopP_ret, ↓loopP_pan, ↓loopP_exit, ↓xC_exit, ↓xC_ret, ↓xOps_nil, ↓xOps_cons, ↓xOps_guard, ↓gW_tt, ↓gW_tf, ↓gW_ft, ↓gW_ff, ↓gW_un, ↓opW_w, ↓opW_ws, ↓opW_wn, ↓opW_wh, ↓opW_value, ↓opW_panic, put_some, put_none, target_fn, ev_tmp, ev_func, ev_int, ev_bool, ev_str, ev_nils, ev_nilp, ev_nili, ev_nilf, evs_nil, evs_cons, evp_nil, evp_cons, evo_none, evo_some, opD_move, opD_assign, opD_pick, pickW_true, pickW_false, pickW_bool, opD_bin, opD_not, opD_conv, opD_load, opD_store, opD_indexAddr, opD_index, opD_fieldAddr, opD_field, opD_extract, opD_len', len_str, len_nils, len_vec, len_sl, opD_alloc, opD_append', opD_buildSlice, opD_build, opD_slice', ofO_some, lss_i, leq_i, gtr_i, geq_i, eql_i, neq_i, add_i, sub_i, mul_i, not_b, eql_s, neq_s, lss_s, leq_s, end_ret, end_n, end_pan, Tm.get_set, argT, Nat.reduceEqDiff, Nat.reduceAdd, if_true, if_false, cond_true, cond_false, Bool.true_eq_false, Bool.false_eq_true, Bool.not_true, Bool.not_false, reduceCtorEq, List.toList_toArray, Nat.reduceLT, results?, vals, ite_true, ite_false, h1, decide_false]
    congr 3
    unfold isKeyB
    rw [Bool.eq_iff_iff]; simp; omega
theorem isKey89 {o : Orc} (ho : Free o) (s : List UInt8) : Ct cx o (.fn 89 [.p (.str s)]) [] (fun e _ => e = .ret (.p (.bool (isKeyB s)))) := by
  refine ct89 (ho _ _ _ (by decide)) rfl ?_
  by_cases h1 : (1 : Int) ≤ (s.length : Int)
  · simp only [sc89, sc89r0, sc89r1, u3, u4, u5, u9, u22, u25, u130, s3, s4, s5, s9, s22, s25, s29, s34, s130, a3, a4, a5, a9, a22, a25, a29, a34, a130, ↓xC_skip, ↓xC_reg, ↓xC_seq, ↓seqP_n, ↓seqP_ret, ↓seqP_pan, ↓seqP_exit, ↓xC_cond, ↓condW_true, ↓condW_false, ↓xC_block, ↓blockP_n, ↓blockP_ret, ↓blockP_pan, ↓blockP_exit, ↓loopP_n, ↓loopP_ret, ↓loopP_pan, ↓loopP_exit, ↓xC_exit, ↓xC_ret, ↓xOps_nil, ↓xOps_cons, ↓xOps_guard, ↓gW_tt, ↓gW_tf, ↓gW_ft, ↓gW_ff, ↓gW_un, ↓opW_w, ↓opW_ws, ↓opW_wn, ↓opW_wh, ↓opW_value, ↓opW_panic, put_some, put_none, target_fn, ev_tmp, ev_func, ev_int, ev_bool, ev_str, ev_nils, ev_nilp, ev_nili, ev_nilf, evs_nil, evs_cons, evp_nil, evp_cons, evo_none, evo_some, opD_move, opD_assign, opD_pick, pickW_true, pickW_false, pickW_bool, opD_bin, opD_not, opD_conv, opD_load, opD_store, opD_indexAddr, opD_index, opD_fieldAddr, opD_field, opD_extract, opD_len', len_str, len_nils, len_vec, len_sl, opD_alloc, opD_append', opD_buildSlice, opD_build, opD_slice', ofO_some, lss_i, leq_i, gtr_i, geq_i, eql_i, neq_i, add_i, sub_i, mul_i, not_b, eql_s, neq_s, lss_s, leq_s, end_ret, end_n, end_pan, Tm.get_set, argT, Nat.reduceEqDiff, Nat.reduceAdd, if_true, if_false, cond_true, cond_false, Bool.true_eq_false, Bool.false_eq_true, Bool.not_true, Bool.not_false, reduceCtorEq, List.toList_toArray, Nat.reduceLT, results?, vals, ite_true, ite_false, h1, decide_true]
    congr 3
    unfold isKeyB
    rw [Bool.eq_iff_iff]; simp; omega
  · simp only [sc89, sc89r0, sc89r1, u3, u4, u5, u9, u22, u25, u130, s3, s4, s5, s9, s22, s25, s29, s34, s130, a3, a4, a5, a9, a22, a25, a29, a34, a130, ↓xC_skip, ↓xC_reg, ↓xC_seq, ↓seqP_n, ↓seqP_ret, ↓seqP_pan, ↓seqP_exit, ↓xC_cond, ↓condW_true, ↓condW_false, ↓xC_block, ↓blockP_n, ↓blockP_ret, ↓blockP_pan, ↓blockP_exit, ↓loopP_n, ↓loopP_ret, ↓loopP_pan, ↓loopP_exit, ↓xC_exit, ↓xC_ret, ↓xOps_nil, ↓xOps_cons, ↓xOps_guard, ↓gW_tt, ↓gW_tf, ↓gW_ft, ↓gW_ff, ↓gW_un, ↓opW_w, ↓opW_ws, ↓opW_wn, ↓opW_wh, ↓opW_value, ↓opW_panic, put_some, put_none, target_fn, ev_tmp, ev_func, ev_int, ev_bool, ev_str, ev_nils, ev_nilp, ev_nili, ev_nilf, evs_nil, evs_cons, evp_nil, evp_cons, evo_none, evo_some, opD_move, opD_assign, opD_pick, pickW_true, pickW_false, pickW_bool, opD_bin, opD_not, opD_conv, opD_load, opD_store, opD_indexAddr, opD_index, opD_fieldAddr, opD_field, opD_extract, opD_len', len_str, len_nils, len_vec, len_sl, opD_alloc, opD_append', opD_buildSlice, opD_build, opD_slice', ofO_some, lss_i, leq_i, gtr_i, geq_i, eql_i, neq_i, add_i, sub_i, mul_i, not_b, eql_s, neq_s, lss_s, leq_s, end_ret, end_n, end_pan, Tm.get_set, argT, Nat.reduceEqDiff, Nat.reduceAdd, if_true, if_false, cond_true, cond_false, Bool.true_eq_false, Bool.false_eq_true, Bool.not_true, Bool.not_false, reduceCtorEq, List.toList_toArray, Nat.reduceLT, results?, vals, ite_true, ite_false, h1, decide_false]
    congr 3
    unfold isKeyB
    rw [Bool.eq_iff_iff]; simp; omega
theorem cs65 {o : Orc} (ho : Free o) (s : List UInt8) (h) : CS cx o (.fn 65 [.p (.str s)]) h (.ret (.p (.bool (isKeyB s)))) h := cs_p (f := 65) (ps := [.str s]) rfl (isKey65 ho s)
theorem cs89 {o : Orc} (ho : Free o) (s : List UInt8) (h) : CS cx o (.fn 89 [.p (.str s)]) h (.ret (.p (.bool (isKeyB s)))) h := cs_p (f := 89) (ps := [.str s]) rfl (isKey89 ho s)
theorem call65 {o : Orc} (ho : Free o) {s h dst t d r k Q} : callW cx o dst t h d r (some (.fn 65 [.p (.str s)])) k Q = k (put dst (.p (.bool (isKeyB s))) t) h d r := callW_ret ext65 (cs65 ho s h)
theorem call89 {o : Orc} (ho : Free o) {s h dst t d r k Q} : callW cx o dst t h d r (some (.fn 89 [.p (.str s)])) k Q = k (put dst (.p (.bool (isKeyB s))) t) h d r := callW_ret ext89 (cs89 ho s h)

/-- Is a value right behind those ahead of it? -/
def okAt (l : List (List UInt8)) (i : Nat) : Bool := isKeyB (l.getD i []) && (decide (i = 0) || !(Op.bytesLess (l.getD i []) (l.getD (i - 1) []) || decide (l.getD i [] = l.getD (i - 1) [])))
def isSetB (l : List (List UInt8)) : Bool := (List.range l.length).all (okAt l) && decide (0 < l.length)

theorem isSetB_false {l i} (hi : i < l.length) (h : okAt l i = false) : isSetB l = false := by
  unfold isSetB
  have : (List.range l.length).all (okAt l) = false := by
    rw [Bool.eq_false_iff]; intro q
    have := List.all_eq_true.1 q i (List.mem_range.2 hi)
    rw [h] at this; cases this
  rw [this]; rfl
theorem isSetB_end {l} {i : Nat} (hi : i ≤ l.length) (hn : ¬ (i : Int) < (l.length : Int)) (h : ∀ j, j < i → okAt l j = true) : isSetB l = decide ((0 : Int) < (l.length : Int)) := by
  unfold isSetB
  have : (List.range l.length).all (okAt l) = true := List.all_eq_true.2 fun j hj => h j (by have := List.mem_range.1 hj; omega)
  rw [this, Bool.true_and]; congr 1; rw [eq_iff_iff]; omega
theorem okAt_step {l i} (h : ∀ j, j < i → okAt l j = true) (hi : okAt l i = true) : ∀ j, j < i + 1 → okAt l j = true := by
  intro j hj
  by_cases e : j = i
  · subst e; exact hi
  · exact h j (by omega)
theorem isSet32 {o : Orc} (ho : Free o) {v h l} (H : Txts h v l) (hl : l.length < 1000000) : Ct cx o (.fn 32 [v]) h (fun e h' => e = .ret (.p (.bool (isSetB l))) ∧ h' = h) := by
  refine ct32 (ho _ _ _ (by decide)) rfl ?_
  simp only [sc32, sc32r0, sc32r1, u3, u4, u5, u9, u22, u25, u130, s3, s4, s5, s9, s22, s25, s29, s34, s130, a3, a4, a5, a9, a22, a25, a29, a34, a130, ↓xC_skip, ↓xC_reg, ↓xC_seq, ↓seqP_n, ↓seqP_ret, ↓seqP_pan, ↓seqP_exit, ↓xC_cond, ↓condW_true, ↓condW_false, ↓xC_block, ↓blockP_n, ↓blockP_ret, ↓blockP_pan, ↓blockP_exit, ↓loopP_n, ↓loopP_ret, ↓loopP_pan, ↓loopP_exit, ↓xC_exit, ↓xC_ret, ↓xOps_nil, ↓xOps_cons, ↓xOps_guard, ↓gW_tt, ↓gW_tf, ↓gW_ft, ↓gW_ff, ↓gW_un, ↓opW_w, ↓opW_ws, ↓opW_wn, ↓opW_wh, ↓opW_value, ↓opW_panic, put_some, put_none, target_fn, ev_tmp, ev_func, ev_int, ev_bool, ev_str, ev_nils, ev_nilp, ev_nili, ev_nilf, evs_nil, evs_cons, evp_nil, evp_cons, evo_none, evo_some, opD_move, opD_assign, opD_pick, pickW_true, pickW_false, pickW_bool, opD_bin, opD_not, opD_conv, opD_load, opD_store, opD_indexAddr, opD_index, opD_fieldAddr, opD_field, opD_extract, opD_len', len_str, len_nils, len_vec, len_sl, opD_alloc, opD_append', opD_buildSlice, opD_build, opD_slice', ofO_some, lss_i, leq_i, gtr_i, geq_i, eql_i, neq_i, add_i, sub_i, mul_i, not_b, eql_s, neq_s, lss_s, leq_s, end_ret, end_n, end_pan, Tm.get_set, argT, Nat.reduceEqDiff, Nat.reduceAdd, if_true, if_false, cond_true, cond_false, Bool.true_eq_false, Bool.false_eq_true, Bool.not_true, Bool.not_false, reduceCtorEq, List.toList_toArray, Nat.reduceLT, results?, vals, ite_true, ite_false, H.len u22]
  refine xC_loop (fun n t h' d r => ∃ i : Nat, n = l.length - i ∧ i ≤ l.length ∧ h' = h ∧ d = [] ∧ r = none ∧ t.get 0 = v ∧ t.get 5 = v ∧ t.get 6 = .p (.int .i64 l.length) ∧ t.get 7 = .p (.int .i64 i) ∧ ∀ j, j < i → okAt l j = true) l.length ?_ ?_
  · refine ⟨0, by omega, by omega, rfl, rfl, rfl, ?_⟩
    simp only [↓xC_skip, ↓xC_reg, ↓xC_seq, ↓seqP_n, ↓seqP_ret, ↓seqP_pan, ↓seqP_exit, ↓xC_cond, ↓condW_true, ↓condW_false, ↓xC_block, ↓blockP_n, ↓blockP_ret, ↓blockP_pan, ↓blockP_exit, ↓loopP_n, ↓loopP_ret, ↓loopP_pan, ↓loopP_exit, ↓xC_exit, ↓xC_ret, ↓xOps_nil, ↓xOps_cons, ↓xOps_guard, ↓gW_tt, ↓gW_tf, ↓gW_ft, ↓gW_ff, ↓gW_un, ↓opW_w, ↓opW_ws, ↓opW_wn, ↓opW_wh, ↓opW_value, ↓opW_panic, put_some, put_none, target_fn, ev_tmp, ev_func, ev_int, ev_bool, ev_str, ev_nils, ev_nilp, ev_nili, ev_nilf, evs_nil, evs_cons, evp_nil, evp_cons, evo_none, evo_some, opD_move, opD_assign, opD_pick, pickW_true, pickW_false, pickW_bool, opD_bin, opD_not, opD_conv, opD_load, opD_store, opD_indexAddr, opD_index, opD_fieldAddr, opD_field, opD_extract, opD_len', len_str, len_nils, len_vec, len_sl, opD_alloc, opD_append', opD_buildSlice, opD_build, opD_slice', ofO_some, lss_i, leq_i, gtr_i, geq_i, eql_i, neq_i, add_i, sub_i, mul_i, not_b, eql_s, neq_s, lss_s, leq_s, end_ret, end_n, end_pan, Tm.get_set, argT, Nat.reduceEqDiff, Nat.reduceAdd, if_true, if_false, cond_true, cond_false, Bool.true_eq_false, Bool.false_eq_true, Bool.not_true, Bool.not_false, reduceCtorEq, List.toList_toArray, Nat.reduceLT, results?, vals, ite_true, ite_false]
    exact ⟨trivial, trivial, trivial, rfl, fun j hj => absurd hj (by omega)⟩
  · rintro n t h' d r ⟨i, hn, hi, rfl, rfl, rfl, t0, t5, t6, t7, hok⟩
    by_cases hlt : (i : Int) < (l.length : Int)
    · have hi0 : (0 : Int) ≤ (i : Int) := Int.natCast_nonneg i
      cases hk : isKeyB (l.getD i [])
      · simp only [sc32l7, sc32r2, sc32r3, sc32r4, sc32r5, sc32r6, u3, u4, u5, u9, u22, u25, u130, s3, s4, s5, s9, s22, s25, s29, s34, s130, a3, a4, a5, a9, a22, a25, a29, a34, a130, ↓xC_skip, ↓xC_reg, ↓xC_seq, ↓seqP_n, ↓seqP_ret, ↓seqP_pan, ↓seqP_exit, ↓xC_cond, ↓condW_true, ↓condW_false, ↓xC_block, ↓blockP_n, ↓blockP_ret, ↓blockP_pan, ↓blockP_exit, ↓loopP_n, ↓loopP_ret, ↓loopP_pan, ↓loopP_exit, ↓xC_exit, ↓xC_ret, ↓xOps_nil, ↓xOps_cons, ↓xOps_guard, ↓gW_tt, ↓gW_tf, ↓gW_ft, ↓gW_ff, ↓gW_un, ↓opW_w, ↓opW_ws, ↓opW_wn, ↓opW_wh, ↓opW_value, ↓opW_panic, put_some, put_none, target_fn, ev_tmp, ev_func, ev_int, ev_bool, ev_str, ev_nils, ev_nilp, ev_nili, ev_nilf, evs_nil, evs_cons, evp_nil, evp_cons, evo_none, evo_some, opD_move, opD_assign, opD_pick, pickW_true, pickW_false, pickW_bool, opD_bin, opD_not, opD_conv, opD_load, opD_store, opD_indexAddr, opD_index, opD_fieldAddr, opD_field, opD_extract, opD_len', len_str, len_nils, len_vec, len_sl, opD_alloc, opD_append', opD_buildSlice, opD_build, opD_slice', ofO_some, lss_i, leq_i, gtr_i, geq_i, eql_i, neq_i, add_i, sub_i, mul_i, not_b, eql_s, neq_s, lss_s, leq_s, end_ret, end_n, end_pan, Tm.get_set, argT, Nat.reduceEqDiff, Nat.reduceAdd, if_true, if_false, cond_true, cond_false, Bool.true_eq_false, Bool.false_eq_true, Bool.not_true, Bool.not_false, reduceCtorEq, List.toList_toArray, Nat.reduceLT, results?, vals, ite_true, ite_false, t0, t5, t6, t7, hlt, decide_true, H.at u22 s9 hi0 hlt, Int.toNat_natCast, H.load a9 (k := i) (by omega), call65 ho, hk]
        rw [isSetB_false (i := i) (by omega) (by unfold okAt; rw [hk]; rfl)]
        exact ⟨rfl, trivial⟩
      · have hw1 : IntKind.wrap .i64 ((i : Int) + 1) = ((i + 1 : Nat) : Int) := by rw [wrap64_id (by omega) (by omega)]; omega
        by_cases hp : (0 : Int) < (i : Int)
        · have hw : IntKind.wrap .i64 ((i : Int) - 1) = ((i - 1 : Nat) : Int) := by rw [wrap64_id (by omega) (by omega)]; omega
          simp only [sc32l7, sc32r2, sc32r3, sc32r4, sc32r5, sc32r6, u3, u4, u5, u9, u22, u25, u130, s3, s4, s5, s9, s22, s25, s29, s34, s130, a3, a4, a5, a9, a22, a25, a29, a34, a130, ↓xC_skip, ↓xC_reg, ↓xC_seq, ↓seqP_n, ↓seqP_ret, ↓seqP_pan, ↓seqP_exit, ↓xC_cond, ↓condW_true, ↓condW_false, ↓xC_block, ↓blockP_n, ↓blockP_ret, ↓blockP_pan, ↓blockP_exit, ↓loopP_n, ↓loopP_ret, ↓loopP_pan, ↓loopP_exit, ↓xC_exit, ↓xC_ret, ↓xOps_nil, ↓xOps_cons, ↓xOps_guard, ↓gW_tt, ↓gW_tf, ↓gW_ft, ↓gW_ff, ↓gW_un, ↓opW_w, ↓opW_ws, ↓opW_wn, ↓opW_wh, ↓opW_value, ↓opW_panic, put_some, put_none, target_fn, ev_tmp, ev_func, ev_int, ev_bool, ev_str, ev_nils, ev_nilp, ev_nili, ev_nilf, evs_nil, evs_cons, evp_nil, evp_cons, evo_none, evo_some, opD_move, opD_assign, opD_pick, pickW_true, pickW_false, pickW_bool, opD_bin, opD_not, opD_conv, opD_load, opD_store, opD_indexAddr, opD_index, opD_fieldAddr, opD_field, opD_extract, opD_len', len_str, len_nils, len_vec, len_sl, opD_alloc, opD_append', opD_buildSlice, opD_build, opD_slice', ofO_some, lss_i, leq_i, gtr_i, geq_i, eql_i, neq_i, add_i, sub_i, mul_i, not_b, eql_s, neq_s, lss_s, leq_s, end_ret, end_n, end_pan, Tm.get_set, argT, Nat.reduceEqDiff, Nat.reduceAdd, if_true, if_false, cond_true, cond_false, Bool.true_eq_false, Bool.false_eq_true, Bool.not_true, Bool.not_false, reduceCtorEq, List.toList_toArray, Nat.reduceLT, results?, vals, ite_true, ite_false, t0, t5, t6, t7, hlt, decide_true, H.at u22 s9 hi0 hlt, Int.toNat_natCast, H.load a9 (k := i) (by omega), call65 ho, hk, hp, hw, H.at u22 s9 (Int.natCast_nonneg (i - 1)) (show ((i - 1 : Nat) : Int) < (l.length : Int) by omega), H.load a9 (k := i - 1) (by omega)]
          cases hc : (Op.bytesLess (l.getD i []) (l.getD (i - 1) []) || decide (l.getD i [] = l.getD (i - 1) []))
          · simp only [condW_false, hw1, true_and]
            refine ⟨_, ?_, i + 1, rfl, by omega, rfl, okAt_step hok ?_⟩
            · omega
            · unfold okAt; rw [hk, hc]; simp
          · simp only [condW_true]
            rw [isSetB_false (i := i) (by omega) (by unfold okAt; rw [hc]; simp; omega)]
            exact ⟨rfl, trivial⟩
        · simp only [sc32l7, sc32r2, sc32r3, sc32r4, sc32r5, sc32r6, u3, u4, u5, u9, u22, u25, u130, s3, s4, s5, s9, s22, s25, s29, s34, s130, a3, a4, a5, a9, a22, a25, a29, a34, a130, ↓xC_skip, ↓xC_reg, ↓xC_seq, ↓seqP_n, ↓seqP_ret, ↓seqP_pan, ↓seqP_exit, ↓xC_cond, ↓condW_true, ↓condW_false, ↓xC_block, ↓blockP_n, ↓blockP_ret, ↓blockP_pan, ↓blockP_exit, ↓loopP_n, ↓loopP_ret, ↓loopP_pan, ↓loopP_exit, ↓xC_exit, ↓xC_ret, ↓xOps_nil, ↓xOps_cons, ↓xOps_guard, ↓gW_tt, ↓gW_tf, ↓gW_ft, ↓gW_ff, ↓gW_un, ↓opW_w, ↓opW_ws, ↓opW_wn, ↓opW_wh, ↓opW_value, ↓opW_panic, put_some, put_none, target_fn, ev_tmp, ev_func, ev_int, ev_bool, ev_str, ev_nils, ev_nilp, ev_nili, ev_nilf, evs_nil, evs_cons, evp_nil, evp_cons, evo_none, evo_some, opD_move, opD_assign, opD_pick, pickW_true, pickW_false, pickW_bool, opD_bin, opD_not, opD_conv, opD_load, opD_store, opD_indexAddr, opD_index, opD_fieldAddr, opD_field, opD_extract, opD_len', len_str, len_nils, len_vec, len_sl, opD_alloc, opD_append', opD_buildSlice, opD_build, opD_slice', ofO_some, lss_i, leq_i, gtr_i, geq_i, eql_i, neq_i, add_i, sub_i, mul_i, not_b, eql_s, neq_s, lss_s, leq_s, end_ret, end_n, end_pan, Tm.get_set, argT, Nat.reduceEqDiff, Nat.reduceAdd, if_true, if_false, cond_true, cond_false, Bool.true_eq_false, Bool.false_eq_true, Bool.not_true, Bool.not_false, reduceCtorEq, List.toList_toArray, Nat.reduceLT, results?, vals, ite_true, ite_false, t0, t5, t6, t7, hlt, decide_true, H.at u22 s9 hi0 hlt, Int.toNat_natCast, H.load a9 (k := i) (by omega), call65 ho, hk, hp, decide_false]
          simp only [hw1, true_and]
          refine ⟨_, ?_, i + 1, rfl, by omega, rfl, okAt_step hok ?_⟩
          · omega
          · have : i = 0 := by omega
            unfold okAt; rw [hk]; simp [this]
    · simp only [sc32l7, sc32r2, sc32r3, sc32r4, sc32r5, sc32r6, sc32r8, u3, u4, u5, u9, u22, u25, u130, s3, s4, s5, s9, s22, s25, s29, s34, s130, a3, a4, a5, a9, a22, a25, a29, a34, a130, ↓xC_skip, ↓xC_reg, ↓xC_seq, ↓seqP_n, ↓seqP_ret, ↓seqP_pan, ↓seqP_exit, ↓xC_cond, ↓condW_true, ↓condW_false, ↓xC_block, ↓blockP_n, ↓blockP_ret, ↓blockP_pan, ↓blockP_exit, ↓loopP_n, ↓loopP_ret, ↓loopP_pan, ↓loopP_exit, ↓xC_exit, ↓xC_ret, ↓xOps_nil, ↓xOps_cons, ↓xOps_guard, ↓gW_tt, ↓gW_tf, ↓gW_ft, ↓gW_ff, ↓gW_un, ↓opW_w, ↓opW_ws, ↓opW_wn, ↓opW_wh, ↓opW_value, ↓opW_panic, put_some, put_none, target_fn, ev_tmp, ev_func, ev_int, ev_bool, ev_str, ev_nils, ev_nilp, ev_nili, ev_nilf, evs_nil, evs_cons, evp_nil, evp_cons, evo_none, evo_some, opD_move, opD_assign, opD_pick, pickW_true, pickW_false, pickW_bool, opD_bin, opD_not, opD_conv, opD_load, opD_store, opD_indexAddr, opD_index, opD_fieldAddr, opD_field, opD_extract, opD_len', len_str, len_nils, len_vec, len_sl, opD_alloc, opD_append', opD_buildSlice, opD_build, opD_slice', ofO_some, lss_i, leq_i, gtr_i, geq_i, eql_i, neq_i, add_i, sub_i, mul_i, not_b, eql_s, neq_s, lss_s, leq_s, end_ret, end_n, end_pan, Tm.get_set, argT, Nat.reduceEqDiff, Nat.reduceAdd, if_true, if_false, cond_true, cond_false, Bool.true_eq_false, Bool.false_eq_true, Bool.not_true, Bool.not_false, reduceCtorEq, List.toList_toArray, Nat.reduceLT, results?, vals, ite_true, ite_false, t0, t5, t6, t7, hlt, decide_false, H.len u22]
      rw [isSetB_end hi hlt hok]
      exact ⟨rfl, trivial⟩
end Go.Proofs

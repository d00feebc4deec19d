/- What is proved: short code of Parse, Bytes, Same and what they call is their code; the space that an update is checked in (proof.spaceOf). Conditions: as before. -/
import Derived.Test.YtepjcfcfpjhpgaaGreatDoorPA10
import Derived.Test.YtepjcfcfpjhpgaaGreatDoorPB01
import Derived.Test.YtepjcfcfpjhpgaaGreatDoorPC01
import Derived.KernelRfl
import Derived.Test.YtepjcfcfpjhpgaaGreatDoorPC06
set_option linter.all false
set_option maxRecDepth 100000
namespace Go.Proofs
open Go Go.Ai
-- understory/understorylaw18.ProofContents
def sc4r0:List SOp:=[⟨none,.box 44 (.tmp 0),(some 2)⟩,
 ⟨none,.assign (.const (.bool false)),(some 4)⟩]
def sc4r1:List SOp:=[faO 44 2 1 16,
 ldO 42 16 17,
 ⟨none,.call {callee:=.builtin .len,args:=#[(.tmp 17)],argTypes:=#[42]},(some 18)⟩,
 ⟨none,.binOp .gtr 3 (.tmp 18) (.const (.int .i64 200)) 3,(some 19)⟩,
 mvO 19 20,
 ⟨(some (some 20,false)),.move (.tmp 1),(some 21)⟩,
 ⟨(some (some 20,false)),.call {callee:=.builtin .len,args:=#[(.tmp 21)],argTypes:=#[9]},(some 22)⟩,
 ⟨(some (some 20,false)),.binOp .gtr 3 (.tmp 22) (.const (.int .i64 3000)) 3,(some 23)⟩,
 ⟨none,.pick (.tmp 20) (.const (.bool true)) (.tmp 23),(some 24)⟩]
def sc4r2:List SOp:=[⟨none,.call {callee:=.value (.func 17),args:=#[],argTypes:=#[]},(some 25)⟩,
 asO 25 4]
def sc4r3:List SOp:=[⟨none,.assign (.const (.int .i64 0)),(some 5)⟩]
def sc4r4:List SOp:=[mvO 5 26,
 faO 44 2 1 27,
 ldO 42 27 28,
 ⟨none,.call {callee:=.builtin .len,args:=#[(.tmp 28)],argTypes:=#[42]},(some 29)⟩,
 ⟨none,.binOp .lss 3 (.tmp 26) (.tmp 29) 3,(some 30)⟩]
def sc4r5:List SOp:=[faO 44 2 1 33,
 ldO 42 33 34,
 mvO 5 35,
 ⟨none,.indexAddr 42 (.tmp 34) (.tmp 35),(some 36)⟩,
 faO 46 36 0 37,
 ldO 9 37 38,
 ⟨none,.call {callee:=.builtin .len,args:=#[(.tmp 38)],argTypes:=#[9]},(some 39)⟩,
 ⟨none,.binOp .gtr 3 (.tmp 39) (.const (.int .i64 300)) 3,(some 40)⟩]
def sc4r6:List SOp:=[⟨none,.call {callee:=.value (.func 17),args:=#[],argTypes:=#[]},(some 41)⟩,
 asO 41 4]
def sc4r7:List SOp:=[mvO 5 31,
 ⟨none,.binOp .add 3 (.tmp 31) (.const (.int .i64 1)) 3,(some 32)⟩,
 asO 32 5]
def sc4l8:SC:=(.seq (.seq (.reg sc4r4) (.cond (.tmp 30) .skip (.exit 0))) (.seq (.block 1 (.seq (.reg sc4r5) (.cond (.tmp 40) (.seq (.reg sc4r6) .ret) .skip))) (.reg sc4r7)))
def sc4r9:List SOp:=[ldO 44 2 43,
 ⟨none,.call {callee:=.value (.func 18),args:=#[(.tmp 43)],argTypes:=#[44]},(some 44)⟩,
 mvO 44 42,
 ⟨none,.extract (.tmp 42) 0,(some 45)⟩,
 ⟨none,.extract (.tmp 42) 1,(some 46)⟩,
 asO 45 6,
 asO 46 7]
def sc4r10:List SOp:=[ldO 44 2 47,
 ⟨none,.call {callee:=.value (.func 19),args:=#[(.tmp 47)],argTypes:=#[44]},(some 48)⟩,
 ⟨none,.alloc 50,(some 8)⟩,
 ⟨none,.store 50 (.tmp 8) (.tmp 48),none⟩]
def sc4r11:List SOp:=[mvO 1 50,
 ⟨none,.call {callee:=.value (.func 20),args:=#[(.tmp 50)],argTypes:=#[9]},(some 51)⟩,
 mvO 51 49,
 ⟨none,.extract (.tmp 49) 0,(some 52)⟩,
 ⟨none,.extract (.tmp 49) 1,(some 53)⟩,
 ⟨none,.alloc 44,(some 9)⟩,
 ⟨none,.store 44 (.tmp 9) (.tmp 52),none⟩,
 asO 53 10]
def sc4r12:List SOp:=[mvO 1 54,
 ⟨none,.call {callee:=.value (.func 21),args:=#[(.tmp 54)],argTypes:=#[9]},(some 55)⟩,
 ⟨none,.alloc 55,(some 11)⟩,
 ⟨none,.store 55 (.tmp 11) (.tmp 55),none⟩]
def sc4r13:List SOp:=[mvO 6 56,
 faO 50 8 0 57,
 ldO 9 57 58,
 ⟨none,.binOp .neq 9 (.tmp 56) (.tmp 58) 9,(some 59)⟩,
 mvO 59 60,
 ⟨(some (some 60,false)),.move (.tmp 7),(some 61)⟩,
 ⟨(some (some 60,false)),.fieldAddr 50 (.tmp 8) 1,(some 62)⟩,
 ⟨(some (some 60,false)),.load 36 (.tmp 62),(some 63)⟩,
 ⟨(some (some 60,false)),.binOp .neq 36 (.tmp 61) (.tmp 63) 36,(some 64)⟩,
 ⟨none,.pick (.tmp 60) (.const (.bool true)) (.tmp 64),(some 65)⟩,
 mvO 65 66,
 ⟨(some (some 66,false)),.load 44 (.tmp 9),(some 67)⟩,
 ⟨(some (some 66,false)),.fieldAddr 55 (.tmp 11) 0,(some 68)⟩,
 ⟨(some (some 66,false)),.load 44 (.tmp 68),(some 69)⟩,
 ⟨(some (some 66,false)),.call {callee:=.value (.func 22),args:=#[(.tmp 67),(.tmp 69)],argTypes:=#[44,44]},(some 70)⟩,
 ⟨(some (some 66,false)),.unOp .not 4 (.tmp 70),(some 71)⟩,
 ⟨none,.pick (.tmp 66) (.const (.bool true)) (.tmp 71),(some 72)⟩,
 mvO 72 73,
 ⟨(some (some 73,false)),.move (.tmp 10),(some 74)⟩,
 ⟨(some (some 73,false)),.fieldAddr 55 (.tmp 11) 1,(some 75)⟩,
 ⟨(some (some 73,false)),.load 36 (.tmp 75),(some 76)⟩,
 ⟨(some (some 73,false)),.binOp .neq 36 (.tmp 74) (.tmp 76) 36,(some 77)⟩,
 ⟨none,.pick (.tmp 73) (.const (.bool true)) (.tmp 77),(some 78)⟩]
def sc4r14:List SOp:=[⟨none,.assign (.const (.bool false)),(some 4)⟩]
def sc4r15:List SOp:=[mvO 7 79,
 ⟨none,.binOp .eql 36 (.tmp 79) (.const (.int .i64 0)) 36,(some 80)⟩]
def sc4r16:List SOp:=[mvO 6 82,
 ⟨none,.call {callee:=.value (.func 20),args:=#[(.tmp 82)],argTypes:=#[9]},(some 83)⟩,
 mvO 83 81,
 ⟨none,.extract (.tmp 81) 0,(some 84)⟩,
 ⟨none,.extract (.tmp 81) 1,(some 85)⟩,
 ⟨none,.alloc 44,(some 12)⟩,
 ⟨none,.store 44 (.tmp 12) (.tmp 84),none⟩,
 asO 85 13]
def sc4r17:List SOp:=[mvO 13 86,
 ⟨none,.binOp .neq 36 (.tmp 86) (.const (.int .i64 0)) 36,(some 87)⟩,
 mvO 87 88,
 ⟨(some (some 88,false)),.load 44 (.tmp 12),(some 89)⟩,
 ⟨(some (some 88,false)),.load 44 (.tmp 2),(some 90)⟩,
 ⟨(some (some 88,false)),.call {callee:=.value (.func 22),args:=#[(.tmp 89),(.tmp 90)],argTypes:=#[44,44]},(some 91)⟩,
 ⟨(some (some 88,false)),.unOp .not 4 (.tmp 91),(some 92)⟩,
 ⟨none,.pick (.tmp 88) (.const (.bool true)) (.tmp 92),(some 93)⟩]
def sc4r18:List SOp:=[⟨none,.assign (.const (.bool false)),(some 4)⟩]
def sc4r19:List SOp:=[mvO 10 94,
 ⟨none,.binOp .eql 36 (.tmp 94) (.const (.int .i64 0)) 36,(some 95)⟩]
def sc4r20:List SOp:=[ldO 44 9 97,
 ⟨none,.call {callee:=.value (.func 18),args:=#[(.tmp 97)],argTypes:=#[44]},(some 98)⟩,
 mvO 98 96,
 ⟨none,.extract (.tmp 96) 0,(some 99)⟩,
 ⟨none,.extract (.tmp 96) 1,(some 100)⟩,
 asO 99 14,
 asO 100 15]
def sc4r21:List SOp:=[⟨none,.call {callee:=.value (.func 17),args:=#[],argTypes:=#[]},(some 101)⟩,
 mvO 101 102,
 ⟨(some (some 102,true)),.move (.tmp 15),(some 103)⟩,
 ⟨(some (some 102,true)),.binOp .eql 36 (.tmp 103) (.const (.int .i64 0)) 36,(some 104)⟩,
 ⟨none,.pick (.tmp 102) (.tmp 104) (.const (.bool false)),(some 105)⟩,
 mvO 105 106,
 ⟨(some (some 106,true)),.move (.tmp 14),(some 107)⟩,
 ⟨(some (some 106,true)),.move (.tmp 1),(some 108)⟩,
 ⟨(some (some 106,true)),.binOp .eql 9 (.tmp 107) (.tmp 108) 9,(some 109)⟩,
 ⟨none,.pick (.tmp 106) (.tmp 109) (.const (.bool false)),(some 110)⟩,
 asO 110 4]
def sc4r22:List SOp:=[⟨none,.call {callee:=.value (.func 17),args:=#[],argTypes:=#[]},(some 111)⟩,
 asO 111 4]
def sc4:SC:=(.seq (.reg sc4r0) (.seq (.seq (.reg sc4r1) (.cond (.tmp 24) (.seq (.reg sc4r2) .ret) .skip)) (.seq (.seq (.reg sc4r3) (.block 0 (.loop sc4l8))) (.seq (.reg sc4r9) (.seq (.reg sc4r10) (.seq (.reg sc4r11) (.seq (.reg sc4r12) (.seq (.seq (.reg sc4r13) (.cond (.tmp 78) (.seq (.reg sc4r14) .ret) .skip)) (.seq (.seq (.reg sc4r15) (.cond (.tmp 80) (.seq (.reg sc4r16) (.seq (.reg sc4r17) (.cond (.tmp 93) (.seq (.reg sc4r18) .ret) .skip))) .skip)) (.seq (.seq (.reg sc4r19) (.cond (.tmp 95) (.seq (.reg sc4r20) (.seq (.reg sc4r21) .ret)) .skip)) (.seq (.reg sc4r22) .ret)))))))))))
theorem sc4_ok:Tryz.f4.body.map tr=some sc4:=by kernel_rfl
theorem fn4:cx.fn 4=some Tryz.f4:=by kernel_rfl
theorem sc4_dst:okS 112 sc4=true:=by kernel_rfl
theorem ct4:CT 4 112 sc4 [.tmp 4]:=fun ho ha=>ct_sc fn4 sc4_ok rfl rfl ho ha sc4_dst
-- understory/proof.Bytes
def sc18r0:List SOp:=[⟨none,.box 44 (.tmp 0),(some 1)⟩,
 ⟨none,.assign (.const (.string (ByteArray.mk #[]))),(some 2)⟩,
 ⟨none,.assign (.const (.int .i64 0)),(some 3)⟩]
def sc18r1:List SOp:=[ldO 44 1 8,
 ⟨none,.call {callee:=.value (.func 52),args:=#[(.tmp 8)],argTypes:=#[44]},(some 9)⟩,
 ⟨none,.unOp .not 4 (.tmp 9),(some 10)⟩]
def sc18r2:List SOp:=[⟨none,.assign (.const (.string (ByteArray.mk #[]))),(some 2)⟩,
 ⟨none,.assign (.const (.int .i64 2)),(some 3)⟩]
def sc18r3:List SOp:=[⟨none,.assign (.const (.slice none 0 0)),(some 4)⟩]
def sc18r4:List SOp:=[mvO 4 11,
 faO 44 1 0 12,
 ldO 3 12 13,
 ⟨none,.convert 3 5 (.tmp 13),(some 14)⟩,
 ⟨none,.buildSlice 117 1 #[(0,(.tmp 14))],(some 15)⟩,
 ⟨none,.call {callee:=.builtin .append,args:=#[(.tmp 11),(.tmp 15)],argTypes:=#[117,117]},(some 16)⟩,
 asO 16 4]
def sc18r5:List SOp:=[mvO 4 17,
 faO 44 1 1 18,
 ldO 42 18 19,
 ⟨none,.call {callee:=.builtin .len,args:=#[(.tmp 19)],argTypes:=#[42]},(some 20)⟩,
 ⟨none,.call {callee:=.value (.func 53),args:=#[(.tmp 20),(.const (.int .i64 2))],argTypes:=#[3,3]},(some 21)⟩,
 ⟨none,.call {callee:=.builtin .append,args:=#[(.tmp 17),(.tmp 21)],argTypes:=#[117,9]},(some 22)⟩,
 asO 22 4]
def sc18r6:List SOp:=[faO 44 1 1 23,
 ldO 42 23 24,
 ⟨none,.call {callee:=.builtin .len,args:=#[(.tmp 24)],argTypes:=#[42]},(some 25)⟩,
 ⟨none,.move (.const (.int .i64 0)),(some 26)⟩]
def sc18r7:List SOp:=[⟨none,.binOp .lss 3 (.tmp 26) (.tmp 25) 3,(some 27)⟩]
def sc18r8:List SOp:=[⟨none,.indexAddr 42 (.tmp 24) (.tmp 26),(some 28)⟩,
 ldO 46 28 29,
 ⟨none,.alloc 46,(some 6)⟩,
 ⟨none,.store 46 (.tmp 6) (.tmp 29),none⟩]
def sc18r9:List SOp:=[mvO 4 30,
 faO 46 6 0 31,
 ldO 9 31 32,
 ⟨none,.call {callee:=.builtin .len,args:=#[(.tmp 32)],argTypes:=#[9]},(some 33)⟩,
 ⟨none,.convert 3 5 (.tmp 33),(some 34)⟩,
 ⟨none,.buildSlice 117 1 #[(0,(.tmp 34))],(some 35)⟩,
 ⟨none,.call {callee:=.builtin .append,args:=#[(.tmp 30),(.tmp 35)],argTypes:=#[117,117]},(some 36)⟩,
 asO 36 4]
def sc18r10:List SOp:=[mvO 4 37,
 faO 46 6 0 38,
 ldO 9 38 39,
 ⟨none,.call {callee:=.builtin .append,args:=#[(.tmp 37),(.tmp 39)],argTypes:=#[117,9]},(some 40)⟩,
 asO 40 4]
def sc18r11:List SOp:=[faO 44 1 0 41,
 ldO 3 41 42,
 ⟨none,.binOp .eql 3 (.tmp 42) (.const (.int .i64 0)) 3,(some 43)⟩]
def sc18r12:List SOp:=[⟨none,.assign (.const (.int .u8 0)),(some 7)⟩]
def sc18r13:List SOp:=[faO 46 6 1 44,
 ldO 4 44 45]
def sc18r14:List SOp:=[⟨none,.assign (.const (.int .u8 1)),(some 7)⟩]
def sc18r15:List SOp:=[mvO 4 46,
 mvO 7 47,
 ⟨none,.buildSlice 117 1 #[(0,(.tmp 47))],(some 48)⟩,
 ⟨none,.call {callee:=.builtin .append,args:=#[(.tmp 46),(.tmp 48)],argTypes:=#[117,117]},(some 49)⟩,
 asO 49 4]
def sc18r16:List SOp:=[faO 44 1 0 50,
 ldO 3 50 51,
 ⟨none,.binOp .gtr 3 (.tmp 51) (.const (.int .i64 0)) 3,(some 52)⟩,
 mvO 52 53,
 ⟨(some (some 53,false)),.fieldAddr 46 (.tmp 6) 1,(some 54)⟩,
 ⟨(some (some 53,false)),.load 4 (.tmp 54),(some 55)⟩,
 ⟨none,.pick (.tmp 53) (.const (.bool true)) (.tmp 55),(some 56)⟩]
def sc18r17:List SOp:=[mvO 4 57,
 faO 46 6 2 58,
 ldO 3 58 59,
 ⟨none,.call {callee:=.value (.func 53),args:=#[(.tmp 59),(.const (.int .i64 4))],argTypes:=#[3,3]},(some 60)⟩,
 ⟨none,.call {callee:=.builtin .append,args:=#[(.tmp 57),(.tmp 60)],argTypes:=#[117,9]},(some 61)⟩,
 asO 61 4]
def sc18r18:List SOp:=[mvO 4 62,
 faO 46 6 3 63,
 ⟨none,.slice 27 (.tmp 63) none none none,(some 64)⟩,
 ⟨none,.call {callee:=.builtin .append,args:=#[(.tmp 62),(.tmp 64)],argTypes:=#[117,117]},(some 65)⟩,
 asO 65 4]
def sc18r19:List SOp:=[⟨none,.binOp .add 3 (.tmp 26) (.const (.int .i64 1)) 3,(some 66)⟩,
 mvO 66 26]
def sc18l20:SC:=(.seq (.reg sc18r7) (.seq (.cond (.tmp 27) .skip (.exit 0)) (.seq (.block 1 (.seq (.reg sc18r8) (.seq (.reg sc18r9) (.seq (.reg sc18r10) (.seq (.seq (.reg sc18r11) (.cond (.tmp 43) (.seq (.reg sc18r12) (.seq (.seq (.reg sc18r13) (.cond (.tmp 45) (.reg sc18r14) .skip)) (.reg sc18r15))) .skip)) (.seq (.seq (.reg sc18r16) (.cond (.tmp 56) (.reg sc18r17) .skip)) (.reg sc18r18))))))) (.reg sc18r19))))
def sc18r21:List SOp:=[mvO 4 67,
 ⟨none,.convert 117 9 (.tmp 67),(some 68)⟩,
 asO 68 2,
 ⟨none,.assign (.const (.int .i64 0)),(some 3)⟩]
def sc18:SC:=(.seq (.reg sc18r0) (.seq (.seq (.reg sc18r1) (.cond (.tmp 10) (.seq (.reg sc18r2) .ret) .skip)) (.seq (.reg sc18r3) (.seq (.reg sc18r4) (.seq (.reg sc18r5) (.seq (.seq (.reg sc18r6) (.block 0 (.loop sc18l20))) (.seq (.reg sc18r21) .ret)))))))
theorem sc18_ok:Tryz.f18.body.map tr=some sc18:=by kernel_rfl
theorem fn18:cx.fn 18=some Tryz.f18:=by kernel_rfl
theorem ext18:cx.ext 18=none:=by kernel_rfl
theorem sc18_dst:okS 69 sc18=true:=by kernel_rfl
theorem ct18:CT 18 69 sc18 [.tmp 2,.tmp 3]:=fun ho ha=>ct_sc fn18 sc18_ok rfl rfl ho ha sc18_dst
-- understory/understoryref18.Bytes
def sc19r0:List SOp:=[⟨none,.box 44 (.tmp 0),(some 1)⟩,
 ⟨none,.alloc 50,(some 2)⟩]
def sc19r1:List SOp:=[ldO 44 1 3,
 ⟨none,.call {callee:=.value (.func 54),args:=#[(.tmp 3)],argTypes:=#[44]},(some 4)⟩,
 ⟨none,.unOp .not 4 (.tmp 4),(some 5)⟩]
def sc19r2:List SOp:=[⟨none,.build 50 #[(1,(.const (.int .i64 2)))],(some 6)⟩,
 ⟨none,.store 50 (.tmp 2) (.tmp 6),none⟩]
def sc19r3:List SOp:=[ldO 44 1 7,
 ⟨none,.call {callee:=.value (.func 55),args:=#[(.tmp 7)],argTypes:=#[44]},(some 8)⟩,
 ⟨none,.build 50 #[(0,(.tmp 8))],(some 9)⟩,
 ⟨none,.store 50 (.tmp 2) (.tmp 9),none⟩]
def sc19:SC:=(.seq (.reg sc19r0) (.seq (.seq (.reg sc19r1) (.cond (.tmp 5) (.seq (.reg sc19r2) .ret) .skip)) (.seq (.reg sc19r3) .ret)))
theorem sc19_ok:Tryz.f19.body.map tr=some sc19:=by kernel_rfl
theorem fn19:cx.fn 19=some Tryz.f19:=by kernel_rfl
theorem ext19:cx.ext 19=none:=by kernel_rfl
theorem sc19_dst:okS 10 sc19=true:=by kernel_rfl
theorem ct19:CT 19 10 sc19 [.cell 2 50]:=fun ho ha=>ct_sc fn19 sc19_ok rfl rfl ho ha sc19_dst
-- understory/proof.Parse
def sc20r0:List SOp:=[⟨none,.alloc 44,(some 2)⟩,
 ⟨none,.alloc 36,(some 3)⟩]
def sc20r1:List SOp:=[⟨none,.makeFunc (.func 57) #[] #[(.tmp 2)],(some 6)⟩,
 ⟨none,.defer {callee:=.value (.func 56),args:=#[(.tmp 3),(.tmp 6)],argTypes:=#[88,1]},none⟩]
def sc20r2:List SOp:=[mvO 0 7,
 ⟨none,.build 122 #[(0,(.tmp 7))],(some 8)⟩,
 ⟨none,.build 124 #[(0,(.tmp 8))],(some 9)⟩,
 ⟨none,.box 124 (.tmp 9),(some 10)⟩,
 asO 10 4]
def sc20r3:List SOp:=[mvO 4 11,
 ⟨none,.call {callee:=.value (.func 58),args:=#[(.tmp 11),(.const (.int .i64 1))],argTypes:=#[120,3]},(some 12)⟩,
 faO 44 2 0 13,
 ⟨none,.store 3 (.tmp 13) (.tmp 12),none⟩]
def sc20r4:List SOp:=[mvO 4 14,
 ⟨none,.call {callee:=.value (.func 58),args:=#[(.tmp 14),(.const (.int .i64 2))],argTypes:=#[120,3]},(some 15)⟩,
 asO 15 5]
def sc20r5:List SOp:=[mvO 5 16,
 ⟨none,.binOp .gtr 3 (.tmp 16) (.const (.int .i64 0)) 3,(some 17)⟩]
def sc20r6:List (SOp×DK):=[(⟨none,.fieldAddr 44 (.tmp 2) 1,(some 20)⟩,.L 0 2 []),
 (⟨none,.load 42 (.tmp 20),(some 21)⟩,.L 0 2 []),
 (⟨none,.move (.tmp 4),(some 22)⟩,.L 0 0 []),
 (⟨none,.fieldAddr 44 (.tmp 2) 0,(some 23)⟩,.L 0 0 []),
 (⟨none,.load 3 (.tmp 23),(some 24)⟩,.L 0 0 []),
 (⟨none,.call {callee:=.value (.func 59),args:=#[(.tmp 22),(.tmp 24)],argTypes:=#[120,3]},(some 25)⟩,.A [20,21,22,23,24,25] [20,21]),
 (⟨none,.buildSlice 42 1 #[(0,(.tmp 25))],(some 26)⟩,.A [20,21,22,23,24,25,26] [20,21]),
 (⟨none,.call {callee:=.builtin .append,args:=#[(.tmp 21),(.tmp 26)],argTypes:=#[42,42]},(some 27)⟩,.A [20,21,22,23,24,25,26,27] []),
 (⟨none,.fieldAddr 44 (.tmp 2) 1,(some 28)⟩,.L 3 3 []),
 (⟨none,.store 42 (.tmp 28) (.tmp 27),none⟩,.A [20,21,22,23,24,25,26,27,28] [])]
def sc20d6:SC:=.draw sc20r6
theorem sc20d6_x{o rd Q t h d r}:xC cx o rd sc20d6 Q t h d r=xDraw cx o rd Q sc20r6 0 [h] [] [] t h d r:=xC_draw (by kernel_rfl)
def sc20r7:List SOp:=[mvO 5 18,
 ⟨none,.binOp .sub 3 (.tmp 18) (.const (.int .i64 1)) 3,(some 19)⟩,
 asO 19 5]
def sc20l8:SC:=(.seq (.seq (.reg sc20r5) (.cond (.tmp 17) .skip (.exit 0))) (.seq (.block 1 sc20d6) (.reg sc20r7)))
def sc20r9:List SOp:=[mvO 4 29,
 ncO 29 30,
 faO 124 30 0 31,
 faO 122 31 1 32,
 ldO 3 32 33,
 mvO 0 34,
 ⟨none,.call {callee:=.builtin .len,args:=#[(.tmp 34)],argTypes:=#[9]},(some 35)⟩,
 ⟨none,.binOp .eql 3 (.tmp 33) (.tmp 35) 3,(some 36)⟩,
 mvO 36 37,
 ⟨(some (some 37,true)),.load 44 (.tmp 2),(some 38)⟩,
 ⟨(some (some 37,true)),.call {callee:=.value (.func 52),args:=#[(.tmp 38)],argTypes:=#[44]},(some 39)⟩,
 ⟨none,.pick (.tmp 37) (.tmp 39) (.const (.bool false)),(some 40)⟩,
 ⟨none,.call {callee:=.value (.func 60),args:=#[(.tmp 40),(.const (.int .i64 2))],argTypes:=#[4,36]},(some 41)⟩]
def sc20r10:List SOp:=[ldO 44 2 42,
 ⟨none,.store 44 (.tmp 2) (.tmp 42),none⟩,
 ⟨none,.store 36 (.tmp 3) (.const (.int .i64 0)),none⟩]
def sc20:SC:=(.seq (.reg sc20r0) (.seq (.reg sc20r1) (.seq (.reg sc20r2) (.seq (.reg sc20r3) (.seq (.seq (.reg sc20r4) (.block 0 (.loop sc20l8))) (.seq (.reg sc20r9) (.seq (.reg sc20r10) .ret)))))))
theorem sc20_ok:Tryz.f20.body.map tr=some sc20:=by kernel_rfl
theorem fn20:cx.fn 20=some Tryz.f20:=by kernel_rfl
theorem ext20:cx.ext 20=none:=by kernel_rfl
theorem sc20_dst:okS 43 sc20=true:=by kernel_rfl
def sc21r0:List SOp:=[⟨none,.alloc 55,(some 2)⟩]
def sc21r1:List SOp:=[⟨none,.build 55 #[(1,(.const (.int .i64 2)))],(some 10)⟩,
 ⟨none,.alloc 55,(some 3)⟩,
 ⟨none,.store 55 (.tmp 3) (.tmp 10),none⟩]
def sc21r2:List SOp:=[mvO 0 11,
 ⟨none,.call {callee:=.builtin .len,args:=#[(.tmp 11)],argTypes:=#[9]},(some 12)⟩,
 ⟨none,.binOp .lss 3 (.tmp 12) (.const (.int .i64 3)) 3,(some 13)⟩]
def sc21r3:List SOp:=[ldO 55 3 14,
 ⟨none,.store 55 (.tmp 2) (.tmp 14),none⟩]
def sc21r4:List SOp:=[mvO 0 15,
 ⟨none,.index 9 (.tmp 15) (.const (.int .i64 0)),(some 16)⟩,
 ⟨none,.convert 5 3 (.tmp 16),(some 17)⟩,
 ⟨none,.build 44 #[(0,(.tmp 17))],(some 18)⟩,
 ⟨none,.alloc 44,(some 4)⟩,
 ⟨none,.store 44 (.tmp 4) (.tmp 18),none⟩]
def sc21r5:List SOp:=[mvO 0 19,
 ⟨none,.slice 9 (.tmp 19) (some (.const (.int .i64 1))) (some (.const (.int .i64 3))) none,(some 20)⟩,
 ⟨none,.call {callee:=.value (.func 61),args:=#[(.tmp 20)],argTypes:=#[9]},(some 21)⟩,
 asO 21 5]
def sc21r6:List SOp:=[⟨none,.assign (.const (.int .i64 3)),(some 6)⟩]
def sc21r7:List SOp:=[⟨none,.assign (.const (.int .i64 0)),(some 7)⟩]
def sc21r8:List SOp:=[mvO 7 22,
 mvO 5 23,
 ⟨none,.binOp .lss 3 (.tmp 22) (.tmp 23) 3,(some 24)⟩]
def sc21r9:List SOp:=[mvO 6 27,
 mvO 0 28,
 ⟨none,.call {callee:=.builtin .len,args:=#[(.tmp 28)],argTypes:=#[9]},(some 29)⟩,
 ⟨none,.binOp .geq 3 (.tmp 27) (.tmp 29) 3,(some 30)⟩,
 mvO 30 31,
 ⟨(some (some 31,false)),.move (.tmp 6),(some 32)⟩,
 ⟨(some (some 31,false)),.binOp .add 3 (.tmp 32) (.const (.int .i64 1)) 3,(some 33)⟩,
 ⟨(some (some 31,false)),.move (.tmp 0),(some 34)⟩,
 ⟨(some (some 31,false)),.move (.tmp 6),(some 35)⟩,
 ⟨(some (some 31,false)),.index 9 (.tmp 34) (.tmp 35),(some 36)⟩,
 ⟨(some (some 31,false)),.convert 5 3 (.tmp 36),(some 37)⟩,
 ⟨(some (some 31,false)),.binOp .add 3 (.tmp 33) (.tmp 37) 3,(some 38)⟩,
 ⟨(some (some 31,false)),.move (.tmp 0),(some 39)⟩,
 ⟨(some (some 31,false)),.call {callee:=.builtin .len,args:=#[(.tmp 39)],argTypes:=#[9]},(some 40)⟩,
 ⟨(some (some 31,false)),.binOp .geq 3 (.tmp 38) (.tmp 40) 3,(some 41)⟩,
 ⟨none,.pick (.tmp 31) (.const (.bool true)) (.tmp 41),(some 42)⟩]
def sc21r10:List SOp:=[ldO 55 3 43,
 ⟨none,.store 55 (.tmp 2) (.tmp 43),none⟩]
def sc21r11:List SOp:=[mvO 0 44,
 mvO 6 45,
 ⟨none,.binOp .add 3 (.tmp 45) (.const (.int .i64 1)) 3,(some 46)⟩,
 mvO 6 47,
 ⟨none,.binOp .add 3 (.tmp 47) (.const (.int .i64 1)) 3,(some 48)⟩,
 mvO 0 49,
 mvO 6 50,
 ⟨none,.index 9 (.tmp 49) (.tmp 50),(some 51)⟩,
 ⟨none,.convert 5 3 (.tmp 51),(some 52)⟩,
 ⟨none,.binOp .add 3 (.tmp 48) (.tmp 52) 3,(some 53)⟩,
 ⟨none,.slice 9 (.tmp 44) (some (.tmp 46)) (some (.tmp 53)) none,(some 54)⟩,
 ⟨none,.build 46 #[(0,(.tmp 54))],(some 55)⟩,
 ⟨none,.alloc 46,(some 8)⟩,
 ⟨none,.store 46 (.tmp 8) (.tmp 55),none⟩]
def sc21r12:List SOp:=[mvO 6 56,
 ⟨none,.binOp .add 3 (.tmp 56) (.const (.int .i64 1)) 3,(some 57)⟩,
 mvO 0 58,
 mvO 6 59,
 ⟨none,.index 9 (.tmp 58) (.tmp 59),(some 60)⟩,
 ⟨none,.convert 5 3 (.tmp 60),(some 61)⟩,
 ⟨none,.binOp .add 3 (.tmp 57) (.tmp 61) 3,(some 62)⟩,
 asO 62 6]
def sc21r13:List SOp:=[faO 44 4 0 63,
 ldO 3 63 64,
 ⟨none,.binOp .eql 3 (.tmp 64) (.const (.int .i64 0)) 3,(some 65)⟩]
def sc21r14:List SOp:=[mvO 0 66,
 mvO 6 67,
 ⟨none,.index 9 (.tmp 66) (.tmp 67),(some 68)⟩,
 ⟨none,.binOp .eql 5 (.tmp 68) (.const (.int .u8 1)) 5,(some 69)⟩,
 faO 46 8 1 70,
 ⟨none,.store 4 (.tmp 70) (.tmp 69),none⟩]
def sc21r15:List SOp:=[mvO 6 71,
 ⟨none,.binOp .add 3 (.tmp 71) (.const (.int .i64 1)) 3,(some 72)⟩,
 asO 72 6]
def sc21r16:List SOp:=[faO 44 4 0 73,
 ldO 3 73 74,
 ⟨none,.binOp .gtr 3 (.tmp 74) (.const (.int .i64 0)) 3,(some 75)⟩,
 mvO 75 76,
 ⟨(some (some 76,false)),.fieldAddr 46 (.tmp 8) 1,(some 77)⟩,
 ⟨(some (some 76,false)),.load 4 (.tmp 77),(some 78)⟩,
 ⟨none,.pick (.tmp 76) (.const (.bool true)) (.tmp 78),(some 79)⟩]
def sc21r17:List SOp:=[mvO 6 80,
 ⟨none,.binOp .add 3 (.tmp 80) (.const (.int .i64 4)) 3,(some 81)⟩,
 mvO 0 82,
 ⟨none,.call {callee:=.builtin .len,args:=#[(.tmp 82)],argTypes:=#[9]},(some 83)⟩,
 ⟨none,.binOp .gtr 3 (.tmp 81) (.tmp 83) 3,(some 84)⟩]
def sc21r18:List SOp:=[ldO 55 3 85,
 ⟨none,.store 55 (.tmp 2) (.tmp 85),none⟩]
def sc21r19:List SOp:=[mvO 0 86,
 mvO 6 87,
 mvO 6 88,
 ⟨none,.binOp .add 3 (.tmp 88) (.const (.int .i64 4)) 3,(some 89)⟩,
 ⟨none,.slice 9 (.tmp 86) (some (.tmp 87)) (some (.tmp 89)) none,(some 90)⟩,
 ⟨none,.call {callee:=.value (.func 61),args:=#[(.tmp 90)],argTypes:=#[9]},(some 91)⟩,
 faO 46 8 2 92,
 ⟨none,.store 3 (.tmp 92) (.tmp 91),none⟩]
def sc21r20:List SOp:=[mvO 6 93,
 ⟨none,.binOp .add 3 (.tmp 93) (.const (.int .i64 4)) 3,(some 94)⟩,
 asO 94 6]
def sc21r21:List SOp:=[mvO 6 95,
 ⟨none,.binOp .add 3 (.tmp 95) (.const (.int .i64 16)) 3,(some 96)⟩,
 mvO 0 97,
 ⟨none,.call {callee:=.builtin .len,args:=#[(.tmp 97)],argTypes:=#[9]},(some 98)⟩,
 ⟨none,.binOp .gtr 3 (.tmp 96) (.tmp 98) 3,(some 99)⟩]
def sc21r22:List SOp:=[ldO 55 3 100,
 ⟨none,.store 55 (.tmp 2) (.tmp 100),none⟩]
def sc21r23:List SOp:=[⟨none,.assign (.const (.int .i64 0)),(some 9)⟩]
def sc21r24:List SOp:=[mvO 9 101,
 ⟨none,.binOp .lss 3 (.tmp 101) (.const (.int .i64 16)) 3,(some 102)⟩]
def sc21r25:List SOp:=[mvO 9 105,
 mvO 0 106,
 mvO 6 107,
 mvO 9 108,
 ⟨none,.binOp .add 3 (.tmp 107) (.tmp 108) 3,(some 109)⟩,
 ⟨none,.index 9 (.tmp 106) (.tmp 109),(some 110)⟩,
 faO 46 8 3 111,
 ⟨none,.indexAddr 27 (.tmp 111) (.tmp 105),(some 112)⟩,
 ⟨none,.store 5 (.tmp 112) (.tmp 110),none⟩]
def sc21r26:List SOp:=[mvO 9 103,
 ⟨none,.binOp .add 3 (.tmp 103) (.const (.int .i64 1)) 3,(some 104)⟩,
 asO 104 9]
def sc21l27:SC:=(.seq (.seq (.reg sc21r24) (.cond (.tmp 102) .skip (.exit 2))) (.seq (.block 3 (.reg sc21r25)) (.reg sc21r26)))
def sc21r28:List SOp:=[mvO 6 113,
 ⟨none,.binOp .add 3 (.tmp 113) (.const (.int .i64 16)) 3,(some 114)⟩,
 asO 114 6]
def sc21r29:List SOp:=[faO 44 4 1 115,
 ldO 42 115 116,
 ldO 46 8 117,
 ⟨none,.buildSlice 42 1 #[(0,(.tmp 117))],(some 118)⟩,
 ⟨none,.call {callee:=.builtin .append,args:=#[(.tmp 116),(.tmp 118)],argTypes:=#[42,42]},(some 119)⟩,
 faO 44 4 1 120,
 ⟨none,.store 42 (.tmp 120) (.tmp 119),none⟩]
def sc21r30:List SOp:=[mvO 7 25,
 ⟨none,.binOp .add 3 (.tmp 25) (.const (.int .i64 1)) 3,(some 26)⟩,
 asO 26 7]
def sc21l31:SC:=(.seq (.seq (.reg sc21r8) (.cond (.tmp 24) .skip (.exit 0))) (.seq (.block 1 (.seq (.seq (.reg sc21r9) (.cond (.tmp 42) (.seq (.reg sc21r10) .ret) .skip)) (.seq (.reg sc21r11) (.seq (.reg sc21r12) (.seq (.seq (.reg sc21r13) (.cond (.tmp 65) (.seq (.reg sc21r14) (.reg sc21r15)) .skip)) (.seq (.seq (.reg sc21r16) (.cond (.tmp 79) (.seq (.seq (.reg sc21r17) (.cond (.tmp 84) (.seq (.reg sc21r18) .ret) .skip)) (.seq (.reg sc21r19) (.reg sc21r20))) .skip)) (.seq (.seq (.reg sc21r21) (.cond (.tmp 99) (.seq (.reg sc21r22) .ret) .skip)) (.seq (.seq (.reg sc21r23) (.block 2 (.loop sc21l27))) (.seq (.reg sc21r28) (.reg sc21r29)))))))))) (.reg sc21r30)))
def sc21r32:List SOp:=[ldO 44 4 121,
 ⟨none,.call {callee:=.value (.func 54),args:=#[(.tmp 121)],argTypes:=#[44]},(some 122)⟩,
 ⟨none,.unOp .not 4 (.tmp 122),(some 123)⟩,
 mvO 123 124,
 ⟨(some (some 124,false)),.load 44 (.tmp 4),(some 125)⟩,
 ⟨(some (some 124,false)),.call {callee:=.value (.func 55),args:=#[(.tmp 125)],argTypes:=#[44]},(some 126)⟩,
 ⟨(some (some 124,false)),.move (.tmp 0),(some 127)⟩,
 ⟨(some (some 124,false)),.binOp .neq 9 (.tmp 126) (.tmp 127) 9,(some 128)⟩,
 ⟨none,.pick (.tmp 124) (.const (.bool true)) (.tmp 128),(some 129)⟩]
def sc21r33:List SOp:=[ldO 55 3 130,
 ⟨none,.store 55 (.tmp 2) (.tmp 130),none⟩]
def sc21r34:List SOp:=[ldO 44 4 131,
 ⟨none,.build 55 #[(0,(.tmp 131))],(some 132)⟩,
 ⟨none,.store 55 (.tmp 2) (.tmp 132),none⟩]
def sc21:SC:=(.seq (.reg sc21r0) (.seq (.reg sc21r1) (.seq (.seq (.reg sc21r2) (.cond (.tmp 13) (.seq (.reg sc21r3) .ret) .skip)) (.seq (.reg sc21r4) (.seq (.reg sc21r5) (.seq (.reg sc21r6) (.seq (.seq (.reg sc21r7) (.block 0 (.loop sc21l31))) (.seq (.seq (.reg sc21r32) (.cond (.tmp 129) (.seq (.reg sc21r33) .ret) .skip)) (.seq (.reg sc21r34) .ret)))))))))
theorem sc21_ok:Tryz.f21.body.map tr=some sc21:=by kernel_rfl
theorem fn21:cx.fn 21=some Tryz.f21:=by kernel_rfl
theorem ext21:cx.ext 21=none:=by kernel_rfl
theorem sc21_dst:okS 133 sc21=true:=by kernel_rfl
theorem ct21:CT 21 133 sc21 [.cell 2 55]:=fun ho ha=>ct_sc fn21 sc21_ok rfl rfl ho ha sc21_dst
-- understory/understoryref18.Same
def sc22r0:List SOp:=[⟨none,.box 44 (.tmp 0),(some 2)⟩,
 ⟨none,.box 44 (.tmp 1),(some 3)⟩,
 ⟨none,.assign (.const (.bool false)),(some 4)⟩]
def sc22r1:List SOp:=[faO 44 2 0 5,
 ldO 3 5 6,
 faO 44 3 0 7,
 ldO 3 7 8,
 ⟨none,.binOp .eql 3 (.tmp 6) (.tmp 8) 3,(some 9)⟩,
 mvO 9 10,
 ⟨(some (some 10,true)),.fieldAddr 44 (.tmp 2) 1,(some 11)⟩,
 ⟨(some (some 10,true)),.load 42 (.tmp 11),(some 12)⟩,
 ⟨(some (some 10,true)),.fieldAddr 44 (.tmp 3) 1,(some 13)⟩,
 ⟨(some (some 10,true)),.load 42 (.tmp 13),(some 14)⟩,
 ⟨(some (some 10,true)),.call {callee:=.value (.func 62),args:=#[(.tmp 12),(.tmp 14)],argTypes:=#[42,42]},(some 15)⟩,
 ⟨none,.pick (.tmp 10) (.tmp 15) (.const (.bool false)),(some 16)⟩,
 asO 16 4]
def sc22:SC:=(.seq (.reg sc22r0) (.seq (.reg sc22r1) .ret))
theorem sc22_ok:Tryz.f22.body.map tr=some sc22:=by kernel_rfl
theorem fn22:cx.fn 22=some Tryz.f22:=by kernel_rfl
theorem ext22:cx.ext 22=none:=by kernel_rfl
theorem sc22_dst:okS 17 sc22=true:=by kernel_rfl
theorem ct22:CT 22 17 sc22 [.tmp 4]:=fun ho ha=>ct_sc fn22 sc22_ok rfl rfl ho ha sc22_dst
-- understory/proof.valid
def sc52r0:List SOp:=[⟨none,.box 44 (.tmp 0),(some 1)⟩,
 ⟨none,.assign (.const (.bool false)),(some 2)⟩]
def sc52r1:List SOp:=[faO 44 1 1 6,
 ldO 42 6 7,
 ⟨none,.call {callee:=.builtin .len,args:=#[(.tmp 7)],argTypes:=#[42]},(some 8)⟩,
 asO 8 3]
def sc52r2:List SOp:=[faO 44 1 0 9,
 ldO 3 9 10,
 ⟨none,.binOp .lss 3 (.tmp 10) (.const (.int .i64 0)) 3,(some 11)⟩,
 mvO 11 12,
 ⟨(some (some 12,false)),.fieldAddr 44 (.tmp 1) 0,(some 13)⟩,
 ⟨(some (some 12,false)),.load 3 (.tmp 13),(some 14)⟩,
 ⟨(some (some 12,false)),.binOp .gtr 3 (.tmp 14) (.const (.int .i64 20)) 3,(some 15)⟩,
 ⟨none,.pick (.tmp 12) (.const (.bool true)) (.tmp 15),(some 16)⟩,
 mvO 16 17,
 ⟨(some (some 17,false)),.move (.tmp 3),(some 18)⟩,
 ⟨(some (some 17,false)),.binOp .lss 3 (.tmp 18) (.const (.int .i64 1)) 3,(some 19)⟩,
 ⟨none,.pick (.tmp 17) (.const (.bool true)) (.tmp 19),(some 20)⟩,
 mvO 20 21,
 ⟨(some (some 21,false)),.move (.tmp 3),(some 22)⟩,
 ⟨(some (some 21,false)),.binOp .gtr 3 (.tmp 22) (.const (.int .i64 65535)) 3,(some 23)⟩,
 ⟨none,.pick (.tmp 21) (.const (.bool true)) (.tmp 23),(some 24)⟩,
 mvO 24 25,
 ⟨(some (some 25,false)),.fieldAddr 44 (.tmp 1) 0,(some 26)⟩,
 ⟨(some (some 25,false)),.load 3 (.tmp 26),(some 27)⟩,
 ⟨(some (some 25,false)),.binOp .gtr 3 (.tmp 27) (.const (.int .i64 0)) 3,(some 28)⟩,
 ⟨(some (some 25,false)),.move (.tmp 28),(some 29)⟩,
 ⟨(some (some 29,true)),.move (.tmp 3),(some 30)⟩,
 ⟨(some (some 29,true)),.binOp .lss 3 (.tmp 30) (.const (.int .i64 2)) 3,(some 31)⟩,
 ⟨(some (some 25,false)),.pick (.tmp 29) (.tmp 31) (.const (.bool false)),(some 32)⟩,
 ⟨none,.pick (.tmp 25) (.const (.bool true)) (.tmp 32),(some 33)⟩]
def sc52r3:List SOp:=[⟨none,.assign (.const (.bool false)),(some 2)⟩]
def sc52r4:List SOp:=[faO 44 1 1 34,
 ldO 42 34 35,
 ⟨none,.call {callee:=.builtin .len,args:=#[(.tmp 35)],argTypes:=#[42]},(some 36)⟩,
 ⟨none,.move (.const (.int .i64 0)),(some 37)⟩]
def sc52r5:List SOp:=[⟨none,.binOp .lss 3 (.tmp 37) (.tmp 36) 3,(some 38)⟩]
def sc52r6:List SOp:=[mvO 37 39,
 ⟨none,.indexAddr 42 (.tmp 35) (.tmp 37),(some 40)⟩,
 ldO 46 40 41,
 ⟨none,.alloc 46,(some 5)⟩,
 asO 39 4,
 ⟨none,.store 46 (.tmp 5) (.tmp 41),none⟩]
def sc52r7:List SOp:=[ldO 46 5 42,
 faO 44 1 0 43,
 ldO 3 43 44,
 ⟨none,.call {callee:=.value (.func 144),args:=#[(.tmp 42),(.tmp 44)],argTypes:=#[46,3]},(some 45)⟩,
 ⟨none,.unOp .not 4 (.tmp 45),(some 46)⟩]
def sc52r8:List SOp:=[⟨none,.assign (.const (.bool false)),(some 2)⟩]
def sc52r9:List SOp:=[faO 44 1 0 47,
 ldO 3 47 48,
 ⟨none,.binOp .gtr 3 (.tmp 48) (.const (.int .i64 0)) 3,(some 49)⟩,
 mvO 49 50,
 ⟨(some (some 50,true)),.move (.tmp 4),(some 51)⟩,
 ⟨(some (some 50,true)),.binOp .eql 3 (.tmp 51) (.const (.int .i64 0)) 3,(some 52)⟩,
 ⟨none,.pick (.tmp 50) (.tmp 52) (.const (.bool false)),(some 53)⟩]
def sc52r10:List SOp:=[faO 46 5 0 54,
 ldO 9 54 55,
 ⟨none,.binOp .neq 9 (.tmp 55) (.const (.string (ByteArray.mk #[]))) 9,(some 56)⟩]
def sc52r11:List SOp:=[⟨none,.assign (.const (.bool false)),(some 2)⟩]
def sc52r12:List (SOp×DK):=[(⟨none,.fieldAddr 46 (.tmp 5) 0,(some 57)⟩,.L 0 0 []),
 (⟨none,.load 9 (.tmp 57),(some 58)⟩,.L 0 0 []),
 (⟨none,.call {callee:=.value (.func 96),args:=#[(.tmp 58)],argTypes:=#[9]},(some 59)⟩,.A [57,58,59] []),
 (⟨none,.unOp .not 4 (.tmp 59),(some 60)⟩,.L 1 1 []),
 (⟨none,.move (.tmp 60),(some 61)⟩,.L 1 1 []),
 (⟨(some (some 61,false)),.move (.tmp 4),(some 62)⟩,.L 1 1 []),
 (⟨(some (some 61,false)),.binOp .gtr 3 (.tmp 62) (.const (.int .i64 0)) 3,(some 63)⟩,.L 1 1 []),
 (⟨(some (some 61,false)),.move (.tmp 63),(some 64)⟩,.L 1 1 []),
 (⟨(some (some 64,true)),.fieldAddr 44 (.tmp 1) 1,(some 65)⟩,.L 1 1 []),
 (⟨(some (some 64,true)),.load 42 (.tmp 65),(some 66)⟩,.L 1 1 []),
 (⟨(some (some 64,true)),.move (.tmp 4),(some 67)⟩,.L 1 1 []),
 (⟨(some (some 64,true)),.binOp .sub 3 (.tmp 67) (.const (.int .i64 1)) 3,(some 68)⟩,.L 1 1 []),
 (⟨(some (some 64,true)),.indexAddr 42 (.tmp 66) (.tmp 68),(some 69)⟩,.L 1 1 []),
 (⟨(some (some 64,true)),.fieldAddr 46 (.tmp 69) 0,(some 70)⟩,.L 1 1 []),
 (⟨(some (some 64,true)),.load 9 (.tmp 70),(some 71)⟩,.L 1 1 []),
 (⟨(some (some 64,true)),.fieldAddr 46 (.tmp 5) 0,(some 72)⟩,.L 1 1 []),
 (⟨(some (some 64,true)),.load 9 (.tmp 72),(some 73)⟩,.L 1 1 []),
 (⟨(some (some 64,true)),.binOp .geq 9 (.tmp 71) (.tmp 73) 9,(some 74)⟩,.L 1 1 []),
 (⟨(some (some 61,false)),.pick (.tmp 64) (.tmp 74) (.const (.bool false)),(some 75)⟩,.L 1 1 []),
 (⟨none,.pick (.tmp 61) (.const (.bool true)) (.tmp 75),(some 76)⟩,.L 1 1 [])]
def sc52d12:SC:=.draw sc52r12
theorem sc52d12_x{o rd Q t h d r}:xC cx o rd sc52d12 Q t h d r=xDraw cx o rd Q sc52r12 0 [h] [] [] t h d r:=xC_draw (by kernel_rfl)
def sc52r13:List SOp:=[⟨none,.assign (.const (.bool false)),(some 2)⟩]
def sc52r14:List SOp:=[⟨none,.binOp .add 3 (.tmp 37) (.const (.int .i64 1)) 3,(some 77)⟩,
 mvO 77 37]
def sc52l15:SC:=(.seq (.reg sc52r5) (.seq (.cond (.tmp 38) .skip (.exit 0)) (.seq (.block 1 (.seq (.reg sc52r6) (.seq (.seq (.reg sc52r7) (.cond (.tmp 46) (.seq (.reg sc52r8) .ret) .skip)) (.seq (.seq (.reg sc52r9) (.cond (.tmp 53) (.seq (.seq (.reg sc52r10) (.cond (.tmp 56) (.seq (.reg sc52r11) .ret) .skip)) (.exit 1)) .skip)) (.seq sc52d12 (.cond (.tmp 76) (.seq (.reg sc52r13) .ret) .skip)))))) (.reg sc52r14))))
def sc52r16:List SOp:=[⟨none,.assign (.const (.bool true)),(some 2)⟩]
def sc52:SC:=(.seq (.reg sc52r0) (.seq (.reg sc52r1) (.seq (.seq (.reg sc52r2) (.cond (.tmp 33) (.seq (.reg sc52r3) .ret) .skip)) (.seq (.seq (.reg sc52r4) (.block 0 (.loop sc52l15))) (.seq (.reg sc52r16) .ret)))))
theorem sc52_ok:Tryz.f52.body.map tr=some sc52:=by kernel_rfl
theorem fn52:cx.fn 52=some Tryz.f52:=by kernel_rfl
theorem ext52:cx.ext 52=none:=by kernel_rfl
theorem sc52_dst:okS 78 sc52=true:=by kernel_rfl
theorem ct52:CT 52 78 sc52 [.tmp 2]:=fun ho ha=>ct_sc fn52 sc52_ok rfl rfl ho ha sc52_dst
-- understory/proof.number
def sc53r0:List SOp:=[⟨none,.assign (.const (.string (ByteArray.mk #[]))),(some 4)⟩]
def sc53r1:List SOp:=[mvO 1 7,
 ⟨none,.makeSlice 117 (.tmp 7) (.tmp 7),(some 8)⟩,
 asO 8 5]
def sc53r2:List SOp:=[mvO 1 9,
 ⟨none,.binOp .sub 3 (.tmp 9) (.const (.int .i64 1)) 3,(some 10)⟩,
 asO 10 6]
def sc53r3:List SOp:=[mvO 6 11,
 ⟨none,.binOp .geq 3 (.tmp 11) (.const (.int .i64 0)) 3,(some 12)⟩]
def sc53r4:List SOp:=[mvO 5 15,
 mvO 6 16,
 mvO 0 17,
 ⟨none,.convert 3 5 (.tmp 17),(some 18)⟩,
 ⟨none,.indexAddr 117 (.tmp 15) (.tmp 16),(some 19)⟩,
 ⟨none,.store 5 (.tmp 19) (.tmp 18),none⟩]
def sc53r5:List SOp:=[mvO 0 20,
 ⟨none,.binOp .shr 3 (.tmp 20) (.const (.int .u64 8)) 232,(some 21)⟩,
 asO 21 0]
def sc53r6:List SOp:=[mvO 6 13,
 ⟨none,.binOp .sub 3 (.tmp 13) (.const (.int .i64 1)) 3,(some 14)⟩,
 asO 14 6]
def sc53l7:SC:=(.seq (.seq (.reg sc53r3) (.cond (.tmp 12) .skip (.exit 0))) (.seq (.block 1 (.seq (.reg sc53r4) (.reg sc53r5))) (.reg sc53r6)))
def sc53r8:List SOp:=[mvO 5 22,
 ⟨none,.convert 117 9 (.tmp 22),(some 23)⟩,
 asO 23 4]
def sc53:SC:=(.seq (.reg sc53r0) (.seq (.reg sc53r1) (.seq (.seq (.reg sc53r2) (.block 0 (.loop sc53l7))) (.seq (.reg sc53r8) .ret))))
theorem sc53_ok:Tryz.f53.body.map tr=some sc53:=by kernel_rfl
theorem fn53:cx.fn 53=some Tryz.f53:=by kernel_rfl
theorem ext53:cx.ext 53=none:=by kernel_rfl
theorem sc53_dst:okS 24 sc53=true:=by kernel_rfl
theorem ct53:CT 53 24 sc53 [.tmp 4]:=fun ho ha=>ct_sc fn53 sc53_ok rfl rfl ho ha sc53_dst
-- understory/understoryref18.Is
def sc54r0:List SOp:=[⟨none,.box 44 (.tmp 0),(some 1)⟩,
 ⟨none,.assign (.const (.bool false)),(some 2)⟩]
def sc54r1:List SOp:=[⟨none,.assign (.const (.int .i64 1)),(some 3)⟩]
def sc54r2:List SOp:=[faO 44 1 0 6,
 ldO 3 6 7,
 ⟨none,.binOp .gtr 3 (.tmp 7) (.const (.int .i64 0)) 3,(some 8)⟩]
def sc54r3:List SOp:=[⟨none,.assign (.const (.int .i64 2)),(some 3)⟩]
def sc54r4:List SOp:=[faO 44 1 0 9,
 ldO 3 9 10,
 ⟨none,.binOp .lss 3 (.tmp 10) (.const (.int .i64 0)) 3,(some 11)⟩,
 mvO 11 12,
 ⟨(some (some 12,false)),.fieldAddr 44 (.tmp 1) 0,(some 13)⟩,
 ⟨(some (some 12,false)),.load 3 (.tmp 13),(some 14)⟩,
 ⟨(some (some 12,false)),.binOp .gtr 3 (.tmp 14) (.const (.int .i64 20)) 3,(some 15)⟩,
 ⟨none,.pick (.tmp 12) (.const (.bool true)) (.tmp 15),(some 16)⟩,
 mvO 16 17,
 ⟨(some (some 17,false)),.fieldAddr 44 (.tmp 1) 1,(some 18)⟩,
 ⟨(some (some 17,false)),.load 42 (.tmp 18),(some 19)⟩,
 ⟨(some (some 17,false)),.call {callee:=.builtin .len,args:=#[(.tmp 19)],argTypes:=#[42]},(some 20)⟩,
 ⟨(some (some 17,false)),.move (.tmp 3),(some 21)⟩,
 ⟨(some (some 17,false)),.binOp .lss 3 (.tmp 20) (.tmp 21) 3,(some 22)⟩,
 ⟨none,.pick (.tmp 17) (.const (.bool true)) (.tmp 22),(some 23)⟩,
 mvO 23 24,
 ⟨(some (some 24,false)),.fieldAddr 44 (.tmp 1) 1,(some 25)⟩,
 ⟨(some (some 24,false)),.load 42 (.tmp 25),(some 26)⟩,
 ⟨(some (some 24,false)),.call {callee:=.builtin .len,args:=#[(.tmp 26)],argTypes:=#[42]},(some 27)⟩,
 ⟨(some (some 24,false)),.binOp .gtr 3 (.tmp 27) (.const (.int .i64 65535)) 3,(some 28)⟩,
 ⟨none,.pick (.tmp 24) (.const (.bool true)) (.tmp 28),(some 29)⟩]
def sc54r5:List SOp:=[⟨none,.assign (.const (.bool false)),(some 2)⟩]
def sc54r6:List SOp:=[⟨none,.assign (.const (.int .i64 0)),(some 4)⟩]
def sc54r7:List SOp:=[mvO 4 30,
 faO 44 1 1 31,
 ldO 42 31 32,
 ⟨none,.call {callee:=.builtin .len,args:=#[(.tmp 32)],argTypes:=#[42]},(some 33)⟩,
 ⟨none,.binOp .lss 3 (.tmp 30) (.tmp 33) 3,(some 34)⟩]
def sc54r8:List SOp:=[faO 44 1 1 37,
 ldO 42 37 38,
 mvO 4 39,
 ⟨none,.indexAddr 42 (.tmp 38) (.tmp 39),(some 40)⟩,
 ldO 46 40 41,
 ⟨none,.alloc 46,(some 5)⟩,
 ⟨none,.store 46 (.tmp 5) (.tmp 41),none⟩]
def sc54r9:List (SOp×DK):=[(⟨none,.fieldAddr 44 (.tmp 1) 0,(some 42)⟩,.L 0 0 []),
 (⟨none,.load 3 (.tmp 42),(some 43)⟩,.L 0 0 []),
 (⟨none,.binOp .gtr 3 (.tmp 43) (.const (.int .i64 0)) 3,(some 44)⟩,.L 0 0 []),
 (⟨none,.move (.tmp 44),(some 45)⟩,.L 0 0 []),
 (⟨(some (some 45,true)),.fieldAddr 46 (.tmp 5) 1,(some 46)⟩,.L 0 0 []),
 (⟨(some (some 45,true)),.load 4 (.tmp 46),(some 47)⟩,.L 0 0 []),
 (⟨(some (some 45,true)),.move (.tmp 47),(some 48)⟩,.L 0 0 []),
 (⟨(some (some 48,false)),.fieldAddr 46 (.tmp 5) 2,(some 49)⟩,.L 0 0 []),
 (⟨(some (some 48,false)),.load 3 (.tmp 49),(some 50)⟩,.L 0 0 []),
 (⟨(some (some 48,false)),.call {callee:=.value (.func 145),args:=#[(.tmp 50)],argTypes:=#[3]},(some 51)⟩,.A [42,43,44,45,46,47,48,49,50,51] []),
 (⟨(some (some 48,false)),.unOp .not 4 (.tmp 51),(some 52)⟩,.L 1 1 []),
 (⟨(some (some 45,true)),.pick (.tmp 48) (.const (.bool true)) (.tmp 52),(some 53)⟩,.L 1 1 []),
 (⟨none,.pick (.tmp 45) (.tmp 53) (.const (.bool false)),(some 54)⟩,.L 1 1 []),
 (⟨none,.move (.tmp 54),(some 55)⟩,.L 1 1 []),
 (⟨(some (some 55,false)),.fieldAddr 44 (.tmp 1) 0,(some 56)⟩,.L 1 1 []),
 (⟨(some (some 55,false)),.load 3 (.tmp 56),(some 57)⟩,.L 1 1 []),
 (⟨(some (some 55,false)),.binOp .eql 3 (.tmp 57) (.const (.int .i64 0)) 3,(some 58)⟩,.L 1 1 []),
 (⟨(some (some 55,false)),.move (.tmp 58),(some 59)⟩,.L 1 1 []),
 (⟨(some (some 59,true)),.fieldAddr 46 (.tmp 5) 1,(some 60)⟩,.L 1 2 []),
 (⟨(some (some 59,true)),.load 4 (.tmp 60),(some 61)⟩,.L 1 2 []),
 (⟨(some (some 59,true)),.fieldAddr 46 (.tmp 5) 2,(some 62)⟩,.L 1 1 []),
 (⟨(some (some 59,true)),.load 3 (.tmp 62),(some 63)⟩,.L 1 1 []),
 (⟨(some (some 59,true)),.call {callee:=.value (.func 145),args:=#[(.tmp 63)],argTypes:=#[3]},(some 64)⟩,.A [42,43,44,45,46,47,48,49,50,51,52,53,54,55,56,57,58,59,60,61,62,63,64] [60,61]),
 (⟨(some (some 59,true)),.binOp .neq 4 (.tmp 61) (.tmp 64) 4,(some 65)⟩,.L 2 2 []),
 (⟨(some (some 55,false)),.pick (.tmp 59) (.tmp 65) (.const (.bool false)),(some 66)⟩,.L 2 2 []),
 (⟨none,.pick (.tmp 55) (.const (.bool true)) (.tmp 66),(some 67)⟩,.L 2 2 []),
 (⟨none,.move (.tmp 67),(some 68)⟩,.L 2 2 []),
 (⟨(some (some 68,false)),.fieldAddr 44 (.tmp 1) 0,(some 69)⟩,.L 2 2 []),
 (⟨(some (some 68,false)),.load 3 (.tmp 69),(some 70)⟩,.L 2 2 []),
 (⟨(some (some 68,false)),.binOp .eql 3 (.tmp 70) (.const (.int .i64 0)) 3,(some 71)⟩,.L 2 2 []),
 (⟨(some (some 68,false)),.move (.tmp 71),(some 72)⟩,.L 2 2 []),
 (⟨(some (some 72,true)),.fieldAddr 46 (.tmp 5) 1,(some 73)⟩,.L 2 2 []),
 (⟨(some (some 72,true)),.load 4 (.tmp 73),(some 74)⟩,.L 2 2 []),
 (⟨(some (some 72,true)),.unOp .not 4 (.tmp 74),(some 75)⟩,.L 2 2 []),
 (⟨(some (some 68,false)),.pick (.tmp 72) (.tmp 75) (.const (.bool false)),(some 76)⟩,.L 2 2 []),
 (⟨(some (some 68,false)),.move (.tmp 76),(some 77)⟩,.L 2 2 []),
 (⟨(some (some 77,true)),.fieldAddr 46 (.tmp 5) 2,(some 78)⟩,.L 2 2 []),
 (⟨(some (some 77,true)),.load 3 (.tmp 78),(some 79)⟩,.L 2 2 []),
 (⟨(some (some 77,true)),.binOp .neq 3 (.tmp 79) (.const (.int .i64 0)) 3,(some 80)⟩,.L 2 2 []),
 (⟨(some (some 68,false)),.pick (.tmp 77) (.tmp 80) (.const (.bool false)),(some 81)⟩,.L 2 2 []),
 (⟨none,.pick (.tmp 68) (.const (.bool true)) (.tmp 81),(some 82)⟩,.L 2 2 [])]
def sc54d9:SC:=.draw sc54r9
theorem sc54d9_x{o rd Q t h d r}:xC cx o rd sc54d9 Q t h d r=xDraw cx o rd Q sc54r9 0 [h] [] [] t h d r:=xC_draw (by kernel_rfl)
def sc54r10:List SOp:=[⟨none,.assign (.const (.bool false)),(some 2)⟩]
def sc54r11:List SOp:=[faO 44 1 0 83,
 ldO 3 83 84,
 ⟨none,.binOp .gtr 3 (.tmp 84) (.const (.int .i64 0)) 3,(some 85)⟩,
 mvO 85 86,
 ⟨(some (some 86,true)),.move (.tmp 4),(some 87)⟩,
 ⟨(some (some 86,true)),.binOp .eql 3 (.tmp 87) (.const (.int .i64 0)) 3,(some 88)⟩,
 ⟨none,.pick (.tmp 86) (.tmp 88) (.const (.bool false)),(some 89)⟩]
def sc54r12:List SOp:=[faO 46 5 0 90,
 ldO 9 90 91,
 ⟨none,.binOp .neq 9 (.tmp 91) (.const (.string (ByteArray.mk #[]))) 9,(some 92)⟩]
def sc54r13:List SOp:=[⟨none,.assign (.const (.bool false)),(some 2)⟩]
def sc54r14:List (SOp×DK):=[(⟨none,.fieldAddr 46 (.tmp 5) 0,(some 93)⟩,.L 0 0 []),
 (⟨none,.load 9 (.tmp 93),(some 94)⟩,.L 0 0 []),
 (⟨none,.call {callee:=.value (.func 146),args:=#[(.tmp 94)],argTypes:=#[9]},(some 95)⟩,.A [93,94,95] []),
 (⟨none,.unOp .not 4 (.tmp 95),(some 96)⟩,.L 1 1 []),
 (⟨none,.move (.tmp 96),(some 97)⟩,.L 1 1 []),
 (⟨(some (some 97,false)),.move (.tmp 4),(some 98)⟩,.L 1 1 []),
 (⟨(some (some 97,false)),.binOp .gtr 3 (.tmp 98) (.const (.int .i64 0)) 3,(some 99)⟩,.L 1 1 []),
 (⟨(some (some 97,false)),.move (.tmp 99),(some 100)⟩,.L 1 1 []),
 (⟨(some (some 100,true)),.fieldAddr 46 (.tmp 5) 0,(some 101)⟩,.L 1 1 []),
 (⟨(some (some 100,true)),.load 9 (.tmp 101),(some 102)⟩,.L 1 1 []),
 (⟨(some (some 100,true)),.fieldAddr 44 (.tmp 1) 1,(some 103)⟩,.L 1 1 []),
 (⟨(some (some 100,true)),.load 42 (.tmp 103),(some 104)⟩,.L 1 1 []),
 (⟨(some (some 100,true)),.move (.tmp 4),(some 105)⟩,.L 1 1 []),
 (⟨(some (some 100,true)),.binOp .sub 3 (.tmp 105) (.const (.int .i64 1)) 3,(some 106)⟩,.L 1 1 []),
 (⟨(some (some 100,true)),.indexAddr 42 (.tmp 104) (.tmp 106),(some 107)⟩,.L 1 1 []),
 (⟨(some (some 100,true)),.fieldAddr 46 (.tmp 107) 0,(some 108)⟩,.L 1 1 []),
 (⟨(some (some 100,true)),.load 9 (.tmp 108),(some 109)⟩,.L 1 1 []),
 (⟨(some (some 100,true)),.binOp .leq 9 (.tmp 102) (.tmp 109) 9,(some 110)⟩,.L 1 1 []),
 (⟨(some (some 97,false)),.pick (.tmp 100) (.tmp 110) (.const (.bool false)),(some 111)⟩,.L 1 1 []),
 (⟨none,.pick (.tmp 97) (.const (.bool true)) (.tmp 111),(some 112)⟩,.L 1 1 [])]
def sc54d14:SC:=.draw sc54r14
theorem sc54d14_x{o rd Q t h d r}:xC cx o rd sc54d14 Q t h d r=xDraw cx o rd Q sc54r14 0 [h] [] [] t h d r:=xC_draw (by kernel_rfl)
def sc54r15:List SOp:=[⟨none,.assign (.const (.bool false)),(some 2)⟩]
def sc54r16:List SOp:=[mvO 4 35,
 ⟨none,.binOp .add 3 (.tmp 35) (.const (.int .i64 1)) 3,(some 36)⟩,
 asO 36 4]
def sc54l17:SC:=(.seq (.seq (.reg sc54r7) (.cond (.tmp 34) .skip (.exit 0))) (.seq (.block 1 (.seq (.reg sc54r8) (.seq (.seq sc54d9 (.cond (.tmp 82) (.seq (.reg sc54r10) .ret) .skip)) (.seq (.reg sc54r11) (.cond (.tmp 89) (.seq (.reg sc54r12) (.cond (.tmp 92) (.seq (.reg sc54r13) .ret) .skip)) (.seq sc54d14 (.cond (.tmp 112) (.seq (.reg sc54r15) .ret) .skip))))))) (.reg sc54r16)))
def sc54r18:List SOp:=[⟨none,.assign (.const (.bool true)),(some 2)⟩]
def sc54:SC:=(.seq (.reg sc54r0) (.seq (.reg sc54r1) (.seq (.seq (.reg sc54r2) (.cond (.tmp 8) (.reg sc54r3) .skip)) (.seq (.seq (.reg sc54r4) (.cond (.tmp 29) (.seq (.reg sc54r5) .ret) .skip)) (.seq (.seq (.reg sc54r6) (.block 0 (.loop sc54l17))) (.seq (.reg sc54r18) .ret))))))
theorem sc54_ok:Tryz.f54.body.map tr=some sc54:=by kernel_rfl
theorem fn54:cx.fn 54=some Tryz.f54:=by kernel_rfl
theorem ext54:cx.ext 54=none:=by kernel_rfl
theorem sc54_dst:okS 113 sc54=true:=by kernel_rfl
theorem ct54:CT 54 113 sc54 [.tmp 2]:=fun ho ha=>ct_sc fn54 sc54_ok rfl rfl ho ha sc54_dst
-- understory/understoryref18.written
def sc55r0:List SOp:=[⟨none,.box 44 (.tmp 0),(some 1)⟩,
 ⟨none,.assign (.const (.string (ByteArray.mk #[]))),(some 2)⟩]
def sc55r1:List (SOp×DK):=[(⟨none,.fieldAddr 44 (.tmp 1) 0,(some 6)⟩,.L 0 0 []),
 (⟨none,.load 3 (.tmp 6),(some 7)⟩,.L 0 0 []),
 (⟨none,.call {callee:=.value (.func 147),args:=#[(.tmp 7),(.const (.int .i64 1))],argTypes:=#[3,3]},(some 8)⟩,.A [6,7,8,9,10,11] [9,10,11]),
 (⟨none,.fieldAddr 44 (.tmp 1) 1,(some 9)⟩,.L 0 1 []),
 (⟨none,.load 42 (.tmp 9),(some 10)⟩,.L 0 1 []),
 (⟨none,.call {callee:=.builtin .len,args:=#[(.tmp 10)],argTypes:=#[42]},(some 11)⟩,.L 0 1 []),
 (⟨none,.call {callee:=.value (.func 147),args:=#[(.tmp 11),(.const (.int .i64 2))],argTypes:=#[3,3]},(some 12)⟩,.A [6,7,8,9,10,11,12] []),
 (⟨none,.binOp .add 9 (.tmp 8) (.tmp 12) 9,(some 13)⟩,.L 2 2 []),
 (⟨none,.convert 9 117 (.tmp 13),(some 14)⟩,.A [6,7,8,9,10,11,12,13,14] []),
 (⟨none,.assign (.tmp 14),(some 3)⟩,.L 3 3 [])]
def sc55d1:SC:=.draw sc55r1
theorem sc55d1_x{o rd Q t h d r}:xC cx o rd sc55d1 Q t h d r=xDraw cx o rd Q sc55r1 0 [h] [] [] t h d r:=xC_draw (by kernel_rfl)
def sc55r2:List SOp:=[⟨none,.assign (.const (.int .i64 0)),(some 4)⟩]
def sc55r3:List SOp:=[mvO 4 15,
 faO 44 1 1 16,
 ldO 42 16 17,
 ⟨none,.call {callee:=.builtin .len,args:=#[(.tmp 17)],argTypes:=#[42]},(some 18)⟩,
 ⟨none,.binOp .lss 3 (.tmp 15) (.tmp 18) 3,(some 19)⟩]
def sc55r4:List SOp:=[faO 44 1 1 22,
 ldO 42 22 23,
 mvO 4 24,
 ⟨none,.indexAddr 42 (.tmp 23) (.tmp 24),(some 25)⟩,
 ldO 46 25 26,
 ⟨none,.alloc 46,(some 5)⟩,
 ⟨none,.store 46 (.tmp 5) (.tmp 26),none⟩]
def sc55r5:List (SOp×DK):=[(⟨none,.move (.tmp 3),(some 27)⟩,.L 0 1 []),
 (⟨none,.fieldAddr 46 (.tmp 5) 0,(some 28)⟩,.L 0 0 []),
 (⟨none,.load 9 (.tmp 28),(some 29)⟩,.L 0 0 []),
 (⟨none,.call {callee:=.builtin .len,args:=#[(.tmp 29)],argTypes:=#[9]},(some 30)⟩,.L 0 0 []),
 (⟨none,.call {callee:=.value (.func 147),args:=#[(.tmp 30),(.const (.int .i64 1))],argTypes:=#[3,3]},(some 31)⟩,.A [27,28,29,30,31,32,33] [27,32,33]),
 (⟨none,.fieldAddr 46 (.tmp 5) 0,(some 32)⟩,.L 0 1 []),
 (⟨none,.load 9 (.tmp 32),(some 33)⟩,.L 0 1 []),
 (⟨none,.binOp .add 9 (.tmp 31) (.tmp 33) 9,(some 34)⟩,.L 1 1 []),
 (⟨none,.call {callee:=.builtin .append,args:=#[(.tmp 27),(.tmp 34)],argTypes:=#[117,9]},(some 35)⟩,.A [27,28,29,30,31,32,33,34,35] []),
 (⟨none,.assign (.tmp 35),(some 3)⟩,.L 2 2 [])]
def sc55d5:SC:=.draw sc55r5
theorem sc55d5_x{o rd Q t h d r}:xC cx o rd sc55d5 Q t h d r=xDraw cx o rd Q sc55r5 0 [h] [] [] t h d r:=xC_draw (by kernel_rfl)
def sc55r6:List SOp:=[faO 44 1 0 36,
 ldO 3 36 37,
 ⟨none,.binOp .eql 3 (.tmp 37) (.const (.int .i64 0)) 3,(some 38)⟩,
 mvO 38 39,
 ⟨(some (some 39,true)),.fieldAddr 46 (.tmp 5) 1,(some 40)⟩,
 ⟨(some (some 39,true)),.load 4 (.tmp 40),(some 41)⟩,
 ⟨none,.pick (.tmp 39) (.tmp 41) (.const (.bool false)),(some 42)⟩]
def sc55r7:List SOp:=[mvO 3 43,
 ⟨none,.buildSlice 117 1 #[(0,(.const (.int .u8 1)))],(some 44)⟩,
 ⟨none,.call {callee:=.builtin .append,args:=#[(.tmp 43),(.tmp 44)],argTypes:=#[117,117]},(some 45)⟩,
 asO 45 3]
def sc55r8:List SOp:=[faO 44 1 0 46,
 ldO 3 46 47,
 ⟨none,.binOp .eql 3 (.tmp 47) (.const (.int .i64 0)) 3,(some 48)⟩]
def sc55r9:List SOp:=[mvO 3 49,
 ⟨none,.buildSlice 117 1 #[(0,(.const (.int .u8 0)))],(some 50)⟩,
 ⟨none,.call {callee:=.builtin .append,args:=#[(.tmp 49),(.tmp 50)],argTypes:=#[117,117]},(some 51)⟩,
 asO 51 3]
def sc55r10:List SOp:=[faO 44 1 0 52,
 ldO 3 52 53,
 ⟨none,.binOp .gtr 3 (.tmp 53) (.const (.int .i64 0)) 3,(some 54)⟩,
 mvO 54 55,
 ⟨(some (some 55,false)),.fieldAddr 46 (.tmp 5) 1,(some 56)⟩,
 ⟨(some (some 55,false)),.load 4 (.tmp 56),(some 57)⟩,
 ⟨none,.pick (.tmp 55) (.const (.bool true)) (.tmp 57),(some 58)⟩]
def sc55r11:List SOp:=[mvO 3 59,
 faO 46 5 2 60,
 ldO 3 60 61,
 ⟨none,.call {callee:=.value (.func 147),args:=#[(.tmp 61),(.const (.int .i64 4))],argTypes:=#[3,3]},(some 62)⟩,
 ⟨none,.call {callee:=.builtin .append,args:=#[(.tmp 59),(.tmp 62)],argTypes:=#[117,9]},(some 63)⟩,
 asO 63 3]
def sc55r12:List SOp:=[mvO 3 64,
 faO 46 5 3 65,
 ⟨none,.slice 27 (.tmp 65) none none none,(some 66)⟩,
 ⟨none,.call {callee:=.builtin .append,args:=#[(.tmp 64),(.tmp 66)],argTypes:=#[117,117]},(some 67)⟩,
 asO 67 3]
def sc55r13:List SOp:=[mvO 4 20,
 ⟨none,.binOp .add 3 (.tmp 20) (.const (.int .i64 1)) 3,(some 21)⟩,
 asO 21 4]
def sc55l14:SC:=(.seq (.seq (.reg sc55r3) (.cond (.tmp 19) .skip (.exit 0))) (.seq (.block 1 (.seq (.reg sc55r4) (.seq sc55d5 (.seq (.seq (.reg sc55r6) (.cond (.tmp 42) (.reg sc55r7) (.seq (.reg sc55r8) (.cond (.tmp 48) (.reg sc55r9) .skip)))) (.seq (.seq (.reg sc55r10) (.cond (.tmp 58) (.reg sc55r11) .skip)) (.reg sc55r12)))))) (.reg sc55r13)))
def sc55r15:List SOp:=[mvO 3 68,
 ⟨none,.convert 117 9 (.tmp 68),(some 69)⟩,
 asO 69 2]
def sc55:SC:=(.seq (.reg sc55r0) (.seq sc55d1 (.seq (.seq (.reg sc55r2) (.block 0 (.loop sc55l14))) (.seq (.reg sc55r15) .ret))))
theorem sc55_ok:Tryz.f55.body.map tr=some sc55:=by kernel_rfl
theorem fn55:cx.fn 55=some Tryz.f55:=by kernel_rfl
theorem ext55:cx.ext 55=none:=by kernel_rfl
theorem sc55_dst:okS 70 sc55=true:=by kernel_rfl
theorem ct55:CT 55 70 sc55 [.tmp 2]:=fun ho ha=>ct_sc fn55 sc55_ok rfl rfl ho ha sc55_dst
-- understory/proof.caught
def sc56r0:List SOp:=[⟨none,.call {callee:=.builtin .recover,args:=#[],argTypes:=#[]},(some 7)⟩]
def sc56r1:List SOp:=[⟨none,.binOp .eql 20 (.tmp 7) (.const .nilIface) 20,(some 9)⟩]
def sc56r2:List SOp:=[asO 7 4]
def sc56r3:List SOp:=[⟨none,.typeAssert (.tmp 7) 20 235 true,(some 10)⟩,
 ⟨none,.extract (.tmp 10) 1,(some 11)⟩,
 ⟨none,.extract (.tmp 10) 0,(some 12)⟩]
def sc56r4:List SOp:=[⟨none,.alloc 235,(some 5)⟩,
 ⟨none,.store 235 (.tmp 5) (.tmp 12),none⟩]
def sc56r5:List SOp:=[mvO 1 13,
 ⟨none,.call {callee:=.value (.tmp 13),args:=#[],argTypes:=#[]},(some 14)⟩]
def sc56r6:List SOp:=[mvO 0 15,
 faO 235 5 0 16,
 ldO 36 16 17,
 ncO 15 18,
 ⟨none,.store 36 (.tmp 18) (.tmp 17),none⟩]
def sc56r7:List SOp:=[asO 7 6]
def sc56r8:List SOp:=[mvO 6 8,
 ⟨none,.panic (.tmp 8),none⟩]
def sc56:SC:=(.seq (.reg sc56r0) (.block 0 (.seq (.reg sc56r1) (.cond (.tmp 9) (.reg sc56r2) (.seq (.reg sc56r3) (.cond (.tmp 11) (.seq (.reg sc56r4) (.seq (.reg sc56r5) (.reg sc56r6))) (.seq (.reg sc56r7) (.reg sc56r8))))))))
theorem sc56_ok:Tryz.f56.body.map tr=some sc56:=by kernel_rfl
theorem fn56:cx.fn 56=some Tryz.f56:=by kernel_rfl
theorem sc56_dst:okS 19 sc56=true:=by kernel_rfl
def sc57r0:List SOp:=[⟨none,.build 44 #[],(some 1)⟩,
 ⟨none,.store 44 (.tmp 0) (.tmp 1),none⟩]
def sc57:SC:=(.reg sc57r0)
theorem sc57_ok:Tryz.f57.body.map tr=some sc57:=by kernel_rfl
theorem fn57:cx.fn 57=some Tryz.f57:=by kernel_rfl
theorem ext57:cx.ext 57=none:=by kernel_rfl
theorem sc57_dst:okS 2 sc57=true:=by kernel_rfl
theorem ct57:CT 57 2 sc57 []:=fun ho ha=>ct_sc fn57 sc57_ok rfl rfl ho ha sc57_dst
-- (*understory/proof.reader).num
def sc58r0:List SOp:=[⟨none,.assign (.const (.int .i64 0)),(some 4)⟩]
def sc58r1:List SOp:=[⟨none,.assign (.const (.int .i64 0)),(some 5)⟩]
def sc58r2:List SOp:=[mvO 0 8,
 ncO 8 9,
 faO 124 9 0 10,
 mvO 1 11,
 ⟨none,.call {callee:=.value (.func 148),args:=#[(.tmp 10),(.tmp 11)],argTypes:=#[122,3]},(some 12)⟩,
 ⟨none,.convert 9 117 (.tmp 12),(some 13)⟩,
 ⟨none,.call {callee:=.builtin .len,args:=#[(.tmp 13)],argTypes:=#[117]},(some 14)⟩,
 ⟨none,.move (.const (.int .i64 0)),(some 15)⟩]
def sc58r3:List SOp:=[⟨none,.binOp .lss 3 (.tmp 15) (.tmp 14) 3,(some 16)⟩]
def sc58r4:List SOp:=[⟨none,.indexAddr 117 (.tmp 13) (.tmp 15),(some 17)⟩,
 ldO 5 17 18,
 asO 18 7]
def sc58r5:List SOp:=[mvO 5 19,
 ⟨none,.binOp .shl 3 (.tmp 19) (.const (.int .u64 8)) 232,(some 20)⟩,
 mvO 7 21,
 ⟨none,.convert 5 3 (.tmp 21),(some 22)⟩,
 ⟨none,.binOp .or 3 (.tmp 20) (.tmp 22) 3,(some 23)⟩,
 asO 23 5]
def sc58r6:List SOp:=[⟨none,.binOp .add 3 (.tmp 15) (.const (.int .i64 1)) 3,(some 24)⟩,
 mvO 24 15]
def sc58l7:SC:=(.seq (.reg sc58r3) (.seq (.cond (.tmp 16) .skip (.exit 0)) (.seq (.block 1 (.seq (.reg sc58r4) (.reg sc58r5))) (.reg sc58r6))))
def sc58r8:List SOp:=[mvO 5 25,
 asO 25 4]
def sc58:SC:=(.seq (.reg sc58r0) (.seq (.reg sc58r1) (.seq (.seq (.reg sc58r2) (.block 0 (.loop sc58l7))) (.seq (.reg sc58r8) .ret))))
theorem sc58_ok:Tryz.f58.body.map tr=some sc58:=by kernel_rfl
theorem fn58:cx.fn 58=some Tryz.f58:=by kernel_rfl
theorem ext58:cx.ext 58=none:=by kernel_rfl
theorem sc58_dst:okS 26 sc58=true:=by kernel_rfl
theorem ct58:CT 58 26 sc58 [.tmp 4]:=fun ho ha=>ct_sc fn58 sc58_ok rfl rfl ho ha sc58_dst
-- (*understory/proof.reader).item
def sc59r0:List SOp:=[⟨none,.alloc 46,(some 4)⟩]
def sc59r1:List (SOp×DK):=[(⟨none,.move (.tmp 0),(some 7)⟩,.L 0 1 []),
 (⟨none,.nilCheck (.tmp 7),(some 8)⟩,.L 0 1 []),
 (⟨none,.fieldAddr 124 (.tmp 8) 0,(some 9)⟩,.L 0 1 []),
 (⟨none,.move (.tmp 0),(some 10)⟩,.L 0 0 []),
 (⟨none,.call {callee:=.value (.func 58),args:=#[(.tmp 10),(.const (.int .i64 1))],argTypes:=#[120,3]},(some 11)⟩,.A [7,8,9,10,11,5] [7,8,9,5]),
 (⟨none,.call {callee:=.value (.func 148),args:=#[(.tmp 9),(.tmp 11)],argTypes:=#[122,3]},(some 12)⟩,.A [7,8,9,10,11,12,5] [5]),
 (⟨none,.build 46 #[(0,(.tmp 12))],(some 13)⟩,.L 2 2 []),
 (⟨none,.alloc 46,(some 5)⟩,.Z),
 (⟨none,.store 46 (.tmp 5) (.tmp 13),none⟩,.A [7,8,9,10,11,12,13,5] [])]
def sc59d1:SC:=.draw sc59r1
def sc59r2:List SOp:=[mvO 1 14,
 ⟨none,.binOp .eql 3 (.tmp 14) (.const (.int .i64 0)) 3,(some 15)⟩]
def sc59r3:List SOp:=[mvO 0 16,
 ⟨none,.call {callee:=.value (.func 58),args:=#[(.tmp 16),(.const (.int .i64 1))],argTypes:=#[120,3]},(some 17)⟩,
 asO 17 6]
def sc59r4:List SOp:=[mvO 6 18,
 ⟨none,.binOp .leq 3 (.tmp 18) (.const (.int .i64 1)) 3,(some 19)⟩,
 ⟨none,.call {callee:=.value (.func 60),args:=#[(.tmp 19),(.const (.int .i64 2))],argTypes:=#[4,36]},(some 20)⟩]
def sc59r5:List SOp:=[mvO 6 21,
 ⟨none,.binOp .eql 3 (.tmp 21) (.const (.int .i64 1)) 3,(some 22)⟩,
 faO 46 5 1 23,
 ⟨none,.store 4 (.tmp 23) (.tmp 22),none⟩]
def sc59r6:List SOp:=[mvO 1 24,
 ⟨none,.binOp .gtr 3 (.tmp 24) (.const (.int .i64 0)) 3,(some 25)⟩,
 mvO 25 26,
 ⟨(some (some 26,false)),.fieldAddr 46 (.tmp 5) 1,(some 27)⟩,
 ⟨(some (some 26,false)),.load 4 (.tmp 27),(some 28)⟩,
 ⟨none,.pick (.tmp 26) (.const (.bool true)) (.tmp 28),(some 29)⟩]
def sc59r7:List SOp:=[mvO 0 30,
 ⟨none,.call {callee:=.value (.func 58),args:=#[(.tmp 30),(.const (.int .i64 4))],argTypes:=#[120,3]},(some 31)⟩,
 faO 46 5 2 32,
 ⟨none,.store 3 (.tmp 32) (.tmp 31),none⟩]
def sc59r8:List (SOp×DK):=[(⟨none,.fieldAddr 46 (.tmp 5) 3,(some 33)⟩,.L 0 1 []),
 (⟨none,.slice 27 (.tmp 33) none none none,(some 34)⟩,.L 0 1 []),
 (⟨none,.move (.tmp 0),(some 35)⟩,.L 0 0 []),
 (⟨none,.nilCheck (.tmp 35),(some 36)⟩,.L 0 0 []),
 (⟨none,.fieldAddr 124 (.tmp 36) 0,(some 37)⟩,.L 0 0 []),
 (⟨none,.call {callee:=.value (.func 148),args:=#[(.tmp 37),(.const (.int .i64 16))],argTypes:=#[122,3]},(some 38)⟩,.A [33,34,35,36,37,38] [33,34]),
 (⟨none,.call {callee:=.builtin .copy,args:=#[(.tmp 34),(.tmp 38)],argTypes:=#[117,9]},(some 39)⟩,.A [33,34,35,36,37,38,39] [])]
def sc59d8:SC:=.draw sc59r8
theorem sc59d8_x{o rd Q t h d r}:xC cx o rd sc59d8 Q t h d r=xDraw cx o rd Q sc59r8 0 [h] [] [] t h d r:=xC_draw (by kernel_rfl)
def sc59r9:List SOp:=[ldO 46 5 40,
 ⟨none,.store 46 (.tmp 4) (.tmp 40),none⟩]
def sc59:SC:=(.seq (.reg sc59r0) (.seq sc59d1 (.seq (.seq (.reg sc59r2) (.cond (.tmp 15) (.seq (.reg sc59r3) (.seq (.reg sc59r4) (.reg sc59r5))) .skip)) (.seq (.seq (.reg sc59r6) (.cond (.tmp 29) (.reg sc59r7) .skip)) (.seq sc59d8 (.seq (.reg sc59r9) .ret))))))
theorem sc59_ok:Tryz.f59.body.map tr=some sc59:=by kernel_rfl
theorem fn59:cx.fn 59=some Tryz.f59:=by kernel_rfl
theorem ext59:cx.ext 59=none:=by kernel_rfl
theorem sc59_dst:okS 41 sc59=true:=by kernel_rfl
theorem ct59:CT 59 41 sc59 [.cell 4 46]:=fun ho ha=>ct_sc fn59 sc59_ok rfl rfl ho ha sc59_dst
-- understory/proof.need
def sc60r0:List SOp:=[mvO 0 4,
 ⟨none,.unOp .not 4 (.tmp 4),(some 5)⟩]
def sc60r1:List SOp:=[mvO 1 6,
 ⟨none,.build 235 #[(0,(.tmp 6))],(some 7)⟩,
 ⟨none,.makeInterface 235 (.tmp 7),(some 8)⟩,
 ⟨none,.panic (.tmp 8),none⟩]
def sc60:SC:=(.seq (.reg sc60r0) (.cond (.tmp 5) (.reg sc60r1) .skip))
theorem sc60_ok:Tryz.f60.body.map tr=some sc60:=by kernel_rfl
theorem fn60:cx.fn 60=some Tryz.f60:=by kernel_rfl
theorem ext60:cx.ext 60=none:=by kernel_rfl
theorem sc60_dst:okS 9 sc60=true:=by kernel_rfl
theorem ct60:CT 60 9 sc60 []:=fun ho ha=>ct_sc fn60 sc60_ok rfl rfl ho ha sc60_dst
-- understory/understoryref18.number
def sc61r0:List SOp:=[⟨none,.assign (.const (.int .i64 0)),(some 2)⟩]
def sc61r1:List SOp:=[⟨none,.assign (.const (.int .i64 0)),(some 3)⟩]
def sc61r2:List SOp:=[⟨none,.assign (.const (.int .i64 0)),(some 4)⟩]
def sc61r3:List SOp:=[mvO 4 5,
 mvO 0 6,
 ⟨none,.call {callee:=.builtin .len,args:=#[(.tmp 6)],argTypes:=#[9]},(some 7)⟩,
 ⟨none,.binOp .lss 3 (.tmp 5) (.tmp 7) 3,(some 8)⟩]
def sc61r4:List SOp:=[mvO 3 11,
 ⟨none,.binOp .mul 3 (.tmp 11) (.const (.int .i64 256)) 3,(some 12)⟩,
 mvO 0 13,
 mvO 4 14,
 ⟨none,.index 9 (.tmp 13) (.tmp 14),(some 15)⟩,
 ⟨none,.convert 5 3 (.tmp 15),(some 16)⟩,
 ⟨none,.binOp .add 3 (.tmp 12) (.tmp 16) 3,(some 17)⟩,
 asO 17 3]
def sc61r5:List SOp:=[mvO 4 9,
 ⟨none,.binOp .add 3 (.tmp 9) (.const (.int .i64 1)) 3,(some 10)⟩,
 asO 10 4]
def sc61l6:SC:=(.seq (.seq (.reg sc61r3) (.cond (.tmp 8) .skip (.exit 0))) (.seq (.block 1 (.reg sc61r4)) (.reg sc61r5)))
def sc61r7:List SOp:=[mvO 3 18,
 asO 18 2]
def sc61:SC:=(.seq (.reg sc61r0) (.seq (.reg sc61r1) (.seq (.seq (.reg sc61r2) (.block 0 (.loop sc61l6))) (.seq (.reg sc61r7) .ret))))
theorem sc61_ok:Tryz.f61.body.map tr=some sc61:=by kernel_rfl
theorem fn61:cx.fn 61=some Tryz.f61:=by kernel_rfl
theorem ext61:cx.ext 61=none:=by kernel_rfl
theorem sc61_dst:okS 19 sc61=true:=by kernel_rfl
theorem ct61:CT 61 19 sc61 [.tmp 2]:=fun ho ha=>ct_sc fn61 sc61_ok rfl rfl ho ha sc61_dst
-- understory/understoryref18.SameItems
def sc62r0:List SOp:=[⟨none,.assign (.const (.bool false)),(some 4)⟩]
def sc62r1:List SOp:=[mvO 0 6,
 ⟨none,.call {callee:=.builtin .len,args:=#[(.tmp 6)],argTypes:=#[42]},(some 7)⟩,
 mvO 1 8,
 ⟨none,.call {callee:=.builtin .len,args:=#[(.tmp 8)],argTypes:=#[42]},(some 9)⟩,
 ⟨none,.binOp .neq 3 (.tmp 7) (.tmp 9) 3,(some 10)⟩]
def sc62r2:List SOp:=[⟨none,.assign (.const (.bool false)),(some 4)⟩]
def sc62r3:List SOp:=[⟨none,.assign (.const (.int .i64 0)),(some 5)⟩]
def sc62r4:List SOp:=[mvO 5 11,
 mvO 0 12,
 ⟨none,.call {callee:=.builtin .len,args:=#[(.tmp 12)],argTypes:=#[42]},(some 13)⟩,
 ⟨none,.binOp .lss 3 (.tmp 11) (.tmp 13) 3,(some 14)⟩]
def sc62r5:List (SOp×DK):=[(⟨none,.move (.tmp 0),(some 17)⟩,.L 0 0 []),
 (⟨none,.move (.tmp 5),(some 18)⟩,.L 0 0 []),
 (⟨none,.indexAddr 42 (.tmp 17) (.tmp 18),(some 19)⟩,.L 0 0 []),
 (⟨none,.load 46 (.tmp 19),(some 20)⟩,.L 0 0 []),
 (⟨none,.move (.tmp 1),(some 21)⟩,.L 0 0 []),
 (⟨none,.move (.tmp 5),(some 22)⟩,.L 0 0 []),
 (⟨none,.indexAddr 42 (.tmp 21) (.tmp 22),(some 23)⟩,.L 0 0 []),
 (⟨none,.load 46 (.tmp 23),(some 24)⟩,.L 0 0 []),
 (⟨none,.binOp .neq 46 (.tmp 20) (.tmp 24) 46,(some 25)⟩,.L 0 0 [])]
def sc62d5:SC:=.draw sc62r5
theorem sc62d5_x{o rd Q t h d r}:xC cx o rd sc62d5 Q t h d r=xDraw cx o rd Q sc62r5 0 [h] [] [] t h d r:=xC_draw (by kernel_rfl)
def sc62r6:List SOp:=[⟨none,.assign (.const (.bool false)),(some 4)⟩]
def sc62r7:List SOp:=[mvO 5 15,
 ⟨none,.binOp .add 3 (.tmp 15) (.const (.int .i64 1)) 3,(some 16)⟩,
 asO 16 5]
def sc62l8:SC:=(.seq (.seq (.reg sc62r4) (.cond (.tmp 14) .skip (.exit 0))) (.seq (.block 1 (.seq sc62d5 (.cond (.tmp 25) (.seq (.reg sc62r6) .ret) .skip))) (.reg sc62r7)))
def sc62r9:List SOp:=[⟨none,.assign (.const (.bool true)),(some 4)⟩]
def sc62:SC:=(.seq (.reg sc62r0) (.seq (.seq (.reg sc62r1) (.cond (.tmp 10) (.seq (.reg sc62r2) .ret) .skip)) (.seq (.seq (.reg sc62r3) (.block 0 (.loop sc62l8))) (.seq (.reg sc62r9) .ret))))
theorem sc62_ok:Tryz.f62.body.map tr=some sc62:=by kernel_rfl
theorem fn62:cx.fn 62=some Tryz.f62:=by kernel_rfl
theorem ext62:cx.ext 62=none:=by kernel_rfl
theorem sc62_dst:okS 26 sc62=true:=by kernel_rfl
theorem ct62:CT 62 26 sc62 [.tmp 4]:=fun ho ha=>ct_sc fn62 sc62_ok rfl rfl ho ha sc62_dst
-- understory/proof.validKey
def sc96r0:List SOp:=[⟨none,.assign (.const (.bool false)),(some 2)⟩]
def sc96r1:List SOp:=[mvO 0 3,
 ⟨none,.call {callee:=.builtin .len,args:=#[(.tmp 3)],argTypes:=#[9]},(some 4)⟩,
 ⟨none,.binOp .geq 3 (.tmp 4) (.const (.int .i64 1)) 3,(some 5)⟩,
 mvO 5 6,
 ⟨(some (some 6,true)),.move (.tmp 0),(some 7)⟩,
 ⟨(some (some 6,true)),.call {callee:=.builtin .len,args:=#[(.tmp 7)],argTypes:=#[9]},(some 8)⟩,
 ⟨(some (some 6,true)),.binOp .leq 3 (.tmp 8) (.const (.int .i64 48)) 3,(some 9)⟩,
 ⟨none,.pick (.tmp 6) (.tmp 9) (.const (.bool false)),(some 10)⟩,
 asO 10 2]
def sc96:SC:=(.seq (.reg sc96r0) (.seq (.reg sc96r1) .ret))
theorem sc96_ok:Tryz.f96.body.map tr=some sc96:=by kernel_rfl
theorem fn96:cx.fn 96=some Tryz.f96:=by kernel_rfl
theorem ext96:cx.ext 96=none:=by kernel_rfl
theorem sc96_dst:okS 11 sc96=true:=by kernel_rfl
theorem ct96:CT 96 11 sc96 [.tmp 2]:=fun ho ha=>ct_sc fn96 sc96_ok rfl rfl ho ha sc96_dst
-- understory/proof.spaceOf
def sc140r0:List SOp:=[⟨none,.alloc 25,(some 2)⟩]
def sc140r1:List SOp:=[⟨none,.makeSlice 22 (.const (.int .i64 4096)) (.const (.int .i64 4096)),(some 7)⟩,
 ⟨none,.build 25 #[(0,(.tmp 7)),(4,(.const (.int .i64 1))),(5,(.const (.int .i64 1)))],(some 8)⟩,
 ⟨none,.alloc 25,(some 3)⟩,
 ⟨none,.store 25 (.tmp 3) (.tmp 8),none⟩]
def sc140r2:List SOp:=[mvO 0 9,
 ⟨none,.call {callee:=.builtin .len,args:=#[(.tmp 9)],argTypes:=#[22]},(some 10)⟩,
 ⟨none,.move (.const (.int .i64 0)),(some 11)⟩]
def sc140r3:List SOp:=[⟨none,.binOp .lss 3 (.tmp 11) (.tmp 10) 3,(some 12)⟩]
def sc140r4:List SOp:=[⟨none,.indexAddr 22 (.tmp 9) (.tmp 11),(some 13)⟩,
 ldO 62 13 14,
 ⟨none,.alloc 62,(some 5)⟩,
 ⟨none,.store 62 (.tmp 5) (.tmp 14),none⟩]
def sc140r5:List SOp:=[faO 25 3 0 15,
 ldO 22 15 16,
 faO 62 5 1 17,
 ldO 3 17 18,
 ldO 62 5 19,
 ⟨none,.indexAddr 22 (.tmp 16) (.tmp 18),(some 20)⟩,
 ⟨none,.store 62 (.tmp 20) (.tmp 19),none⟩]
def sc140r6:List SOp:=[⟨none,.binOp .add 3 (.tmp 11) (.const (.int .i64 1)) 3,(some 21)⟩,
 mvO 21 11]
def sc140l7:SC:=(.seq (.reg sc140r3) (.seq (.cond (.tmp 12) .skip (.exit 0)) (.seq (.block 1 (.seq (.reg sc140r4) (.reg sc140r5))) (.reg sc140r6))))
def sc140r8:List SOp:=[⟨none,.assign (.const (.int .i64 2)),(some 6)⟩]
def sc140r9:List SOp:=[mvO 6 22,
 faO 25 3 0 23,
 ldO 22 23 24,
 ⟨none,.call {callee:=.builtin .len,args:=#[(.tmp 24)],argTypes:=#[22]},(some 25)⟩,
 ⟨none,.binOp .lss 3 (.tmp 22) (.tmp 25) 3,(some 26)⟩]
def sc140r10:List SOp:=[faO 25 3 0 29,
 ldO 22 29 30,
 mvO 6 31,
 ⟨none,.indexAddr 22 (.tmp 30) (.tmp 31),(some 32)⟩,
 faO 62 32 0 33,
 ldO 3 33 34,
 ⟨none,.binOp .eql 3 (.tmp 34) (.const (.int .i64 0)) 3,(some 35)⟩]
def sc140r11:List SOp:=[faO 25 3 1 36,
 ldO 23 36 37,
 mvO 6 38,
 ⟨none,.buildSlice 23 1 #[(0,(.tmp 38))],(some 39)⟩,
 ⟨none,.call {callee:=.builtin .append,args:=#[(.tmp 37),(.tmp 39)],argTypes:=#[23,23]},(some 40)⟩,
 faO 25 3 1 41,
 ⟨none,.store 23 (.tmp 41) (.tmp 40),none⟩]
def sc140r12:List SOp:=[mvO 6 27,
 ⟨none,.binOp .add 3 (.tmp 27) (.const (.int .i64 1)) 3,(some 28)⟩,
 asO 28 6]
def sc140l13:SC:=(.seq (.seq (.reg sc140r9) (.cond (.tmp 26) .skip (.exit 2))) (.seq (.block 3 (.seq (.reg sc140r10) (.cond (.tmp 35) (.reg sc140r11) .skip))) (.reg sc140r12)))
def sc140r14:List SOp:=[ldO 25 3 42,
 ⟨none,.store 25 (.tmp 2) (.tmp 42),none⟩]
def sc140:SC:=(.seq (.reg sc140r0) (.seq (.reg sc140r1) (.seq (.seq (.reg sc140r2) (.block 0 (.loop sc140l7))) (.seq (.seq (.reg sc140r8) (.block 2 (.loop sc140l13))) (.seq (.reg sc140r14) .ret)))))
theorem sc140_ok:Tryz.f140.body.map tr=some sc140:=by kernel_rfl
theorem fn140:cx.fn 140=some Tryz.f140:=by kernel_rfl
theorem sc140_dst:okS 43 sc140=true:=by kernel_rfl
theorem ct140:CT 140 43 sc140 [.cell 2 25]:=fun ho ha=>ct_sc fn140 sc140_ok rfl rfl ho ha sc140_dst
-- understory/proof.validItem
def sc144r0:List SOp:=[⟨none,.box 46 (.tmp 0),(some 2)⟩,
 ⟨none,.assign (.const (.bool false)),(some 4)⟩]
def sc144r1:List SOp:=[mvO 1 5,
 ⟨none,.binOp .eql 3 (.tmp 5) (.const (.int .i64 0)) 3,(some 6)⟩,
 mvO 6 7,
 ⟨(some (some 7,true)),.fieldAddr 46 (.tmp 2) 1,(some 8)⟩,
 ⟨(some (some 7,true)),.load 4 (.tmp 8),(some 9)⟩,
 ⟨(some (some 7,true)),.unOp .not 4 (.tmp 9),(some 10)⟩,
 ⟨none,.pick (.tmp 7) (.tmp 10) (.const (.bool false)),(some 11)⟩]
def sc144r2:List SOp:=[faO 46 2 2 12,
 ldO 3 12 13,
 ⟨none,.binOp .eql 3 (.tmp 13) (.const (.int .i64 0)) 3,(some 14)⟩,
 asO 14 4]
def sc144r3:List SOp:=[mvO 1 15,
 ⟨none,.binOp .eql 3 (.tmp 15) (.const (.int .i64 0)) 3,(some 16)⟩,
 faO 46 2 1 17,
 ldO 4 17 18,
 ⟨none,.binOp .eql 4 (.tmp 16) (.tmp 18) 4,(some 19)⟩,
 mvO 19 20,
 ⟨(some (some 20,true)),.fieldAddr 46 (.tmp 2) 2,(some 21)⟩,
 ⟨(some (some 20,true)),.load 3 (.tmp 21),(some 22)⟩,
 ⟨(some (some 20,true)),.binOp .geq 3 (.tmp 22) (.const (.int .i64 1)) 3,(some 23)⟩,
 ⟨none,.pick (.tmp 20) (.tmp 23) (.const (.bool false)),(some 24)⟩,
 mvO 24 25,
 ⟨(some (some 25,true)),.fieldAddr 46 (.tmp 2) 2,(some 26)⟩,
 ⟨(some (some 25,true)),.load 3 (.tmp 26),(some 27)⟩,
 ⟨(some (some 25,true)),.binOp .leq 3 (.tmp 27) (.const (.int .i64 2147483647)) 3,(some 28)⟩,
 ⟨none,.pick (.tmp 25) (.tmp 28) (.const (.bool false)),(some 29)⟩,
 asO 29 4]
def sc144:SC:=(.seq (.reg sc144r0) (.seq (.seq (.reg sc144r1) (.cond (.tmp 11) (.seq (.reg sc144r2) .ret) .skip)) (.seq (.reg sc144r3) .ret)))
theorem sc144_ok:Tryz.f144.body.map tr=some sc144:=by kernel_rfl
theorem fn144:cx.fn 144=some Tryz.f144:=by kernel_rfl
theorem ext144:cx.ext 144=none:=by kernel_rfl
theorem sc144_dst:okS 30 sc144=true:=by kernel_rfl
theorem ct144:CT 144 30 sc144 [.tmp 4]:=fun ho ha=>ct_sc fn144 sc144_ok rfl rfl ho ha sc144_dst
-- understory/understoryref18.isCount
def sc145r0:List SOp:=[⟨none,.assign (.const (.bool false)),(some 2)⟩]
def sc145r1:List SOp:=[mvO 0 3,
 ⟨none,.binOp .geq 3 (.tmp 3) (.const (.int .i64 1)) 3,(some 4)⟩,
 mvO 4 5,
 ⟨(some (some 5,true)),.move (.tmp 0),(some 6)⟩,
 ⟨(some (some 5,true)),.binOp .leq 3 (.tmp 6) (.const (.int .i64 2147483647)) 3,(some 7)⟩,
 ⟨none,.pick (.tmp 5) (.tmp 7) (.const (.bool false)),(some 8)⟩,
 asO 8 2]
def sc145:SC:=(.seq (.reg sc145r0) (.seq (.reg sc145r1) .ret))
theorem sc145_ok:Tryz.f145.body.map tr=some sc145:=by kernel_rfl
theorem fn145:cx.fn 145=some Tryz.f145:=by kernel_rfl
theorem ext145:cx.ext 145=none:=by kernel_rfl
theorem sc145_dst:okS 9 sc145=true:=by kernel_rfl
theorem ct145:CT 145 9 sc145 [.tmp 2]:=fun ho ha=>ct_sc fn145 sc145_ok rfl rfl ho ha sc145_dst
-- understory/understoryref18.isKey
def sc146r0:List SOp:=[⟨none,.assign (.const (.bool false)),(some 2)⟩]
def sc146r1:List SOp:=[mvO 0 3,
 ⟨none,.call {callee:=.builtin .len,args:=#[(.tmp 3)],argTypes:=#[9]},(some 4)⟩,
 ⟨none,.binOp .geq 3 (.tmp 4) (.const (.int .i64 1)) 3,(some 5)⟩,
 mvO 5 6,
 ⟨(some (some 6,true)),.move (.tmp 0),(some 7)⟩,
 ⟨(some (some 6,true)),.call {callee:=.builtin .len,args:=#[(.tmp 7)],argTypes:=#[9]},(some 8)⟩,
 ⟨(some (some 6,true)),.binOp .leq 3 (.tmp 8) (.const (.int .i64 48)) 3,(some 9)⟩,
 ⟨none,.pick (.tmp 6) (.tmp 9) (.const (.bool false)),(some 10)⟩,
 asO 10 2]
def sc146:SC:=(.seq (.reg sc146r0) (.seq (.reg sc146r1) .ret))
theorem sc146_ok:Tryz.f146.body.map tr=some sc146:=by kernel_rfl
theorem fn146:cx.fn 146=some Tryz.f146:=by kernel_rfl
theorem ext146:cx.ext 146=none:=by kernel_rfl
theorem sc146_dst:okS 11 sc146=true:=by kernel_rfl
theorem ct146:CT 146 11 sc146 [.tmp 2]:=fun ho ha=>ct_sc fn146 sc146_ok rfl rfl ho ha sc146_dst
-- (*understory/proof.input).take
def sc148r0:List SOp:=[⟨none,.assign (.const (.string (ByteArray.mk #[]))),(some 4)⟩]
def sc148r1:List (SOp×DK):=[(⟨none,.move (.tmp 0),(some 5)⟩,.L 0 0 []),
 (⟨none,.nilCheck (.tmp 5),(some 6)⟩,.L 0 0 []),
 (⟨none,.fieldAddr 122 (.tmp 6) 0,(some 7)⟩,.L 0 0 []),
 (⟨none,.load 9 (.tmp 7),(some 8)⟩,.L 0 0 []),
 (⟨none,.call {callee:=.builtin .len,args:=#[(.tmp 8)],argTypes:=#[9]},(some 9)⟩,.L 0 0 []),
 (⟨none,.move (.tmp 0),(some 10)⟩,.L 0 0 []),
 (⟨none,.nilCheck (.tmp 10),(some 11)⟩,.L 0 0 []),
 (⟨none,.fieldAddr 122 (.tmp 11) 1,(some 12)⟩,.L 0 0 []),
 (⟨none,.load 3 (.tmp 12),(some 13)⟩,.L 0 0 []),
 (⟨none,.binOp .sub 3 (.tmp 9) (.tmp 13) 3,(some 14)⟩,.L 0 0 []),
 (⟨none,.move (.tmp 1),(some 15)⟩,.L 0 0 []),
 (⟨none,.binOp .geq 3 (.tmp 14) (.tmp 15) 3,(some 16)⟩,.L 0 0 []),
 (⟨none,.call {callee:=.value (.func 60),args:=#[(.tmp 16),(.const (.int .i64 2))],argTypes:=#[4,36]},(some 17)⟩,.A [5,6,7,8,9,10,11,12,13,14,15,16,17] [])]
def sc148d1:SC:=.draw sc148r1
theorem sc148d1_x{o rd Q t h d r}:xC cx o rd sc148d1 Q t h d r=xDraw cx o rd Q sc148r1 0 [h] [] [] t h d r:=xC_draw (by kernel_rfl)
def sc148r2:List SOp:=[mvO 0 18,
 ncO 18 19,
 faO 122 19 1 20,
 ldO 3 20 21,
 mvO 1 22,
 ⟨none,.binOp .add 3 (.tmp 21) (.tmp 22) 3,(some 23)⟩,
 ncO 18 24,
 faO 122 24 1 25,
 ⟨none,.store 3 (.tmp 25) (.tmp 23),none⟩]
def sc148r3:List (SOp×DK):=[(⟨none,.move (.tmp 0),(some 26)⟩,.L 0 0 []),
 (⟨none,.nilCheck (.tmp 26),(some 27)⟩,.L 0 0 []),
 (⟨none,.fieldAddr 122 (.tmp 27) 0,(some 28)⟩,.L 0 0 []),
 (⟨none,.load 9 (.tmp 28),(some 29)⟩,.L 0 0 []),
 (⟨none,.move (.tmp 0),(some 30)⟩,.L 0 0 []),
 (⟨none,.nilCheck (.tmp 30),(some 31)⟩,.L 0 0 []),
 (⟨none,.fieldAddr 122 (.tmp 31) 1,(some 32)⟩,.L 0 0 []),
 (⟨none,.load 3 (.tmp 32),(some 33)⟩,.L 0 0 []),
 (⟨none,.move (.tmp 1),(some 34)⟩,.L 0 0 []),
 (⟨none,.binOp .sub 3 (.tmp 33) (.tmp 34) 3,(some 35)⟩,.L 0 0 []),
 (⟨none,.move (.tmp 0),(some 36)⟩,.L 0 0 []),
 (⟨none,.nilCheck (.tmp 36),(some 37)⟩,.L 0 0 []),
 (⟨none,.fieldAddr 122 (.tmp 37) 1,(some 38)⟩,.L 0 0 []),
 (⟨none,.load 3 (.tmp 38),(some 39)⟩,.L 0 0 []),
 (⟨none,.slice 9 (.tmp 29) (some (.tmp 35)) (some (.tmp 39)) none,(some 40)⟩,.L 0 0 []),
 (⟨none,.assign (.tmp 40),(some 4)⟩,.L 0 0 [])]
def sc148d3:SC:=.draw sc148r3
theorem sc148d3_x{o rd Q t h d r}:xC cx o rd sc148d3 Q t h d r=xDraw cx o rd Q sc148r3 0 [h] [] [] t h d r:=xC_draw (by kernel_rfl)
def sc148:SC:=(.seq (.reg sc148r0) (.seq sc148d1 (.seq (.reg sc148r2) (.seq sc148d3 .ret))))
theorem sc148_ok:Tryz.f148.body.map tr=some sc148:=by kernel_rfl
theorem fn148:cx.fn 148=some Tryz.f148:=by kernel_rfl
theorem ext148:cx.ext 148=none:=by kernel_rfl
theorem sc148_dst:okS 41 sc148=true:=by kernel_rfl
theorem ct148:CT 148 41 sc148 [.tmp 4]:=fun ho ha=>ct_sc fn148 sc148_ok rfl rfl ho ha sc148_dst
theorem u42:cx.under 42=some (.slice 46):=by kernel_rfl
theorem s42:sizeOf? cx 42=some 1:=by kernel_rfl
theorem a42:aggT? cx 42=some false:=by kernel_rfl
theorem s44:sizeOf? cx 44=some 2:=by kernel_rfl
theorem a44:aggT? cx 44=some true:=by kernel_rfl
theorem f44_0:(fieldOf cx 44 0).map (fun f=>(f.type,f.offset))=some (3,0):=by kernel_rfl
theorem f44_1:(fieldOf cx 44 1).map (fun f=>(f.type,f.offset))=some (42,1):=by kernel_rfl
theorem s46:sizeOf? cx 46=some 19:=by kernel_rfl
theorem a46:aggT? cx 46=some true:=by kernel_rfl
theorem f46_0:(fieldOf cx 46 0).map (fun f=>(f.type,f.offset))=some (9,0):=by kernel_rfl
theorem f46_1:(fieldOf cx 46 1).map (fun f=>(f.type,f.offset))=some (4,1):=by kernel_rfl
theorem f46_2:(fieldOf cx 46 2).map (fun f=>(f.type,f.offset))=some (3,2):=by kernel_rfl
theorem f46_3:(fieldOf cx 46 3).map (fun f=>(f.type,f.offset))=some (27,3):=by kernel_rfl
theorem s50:sizeOf? cx 50=some 2:=by kernel_rfl
theorem a50:aggT? cx 50=some true:=by kernel_rfl
theorem f50_0:(fieldOf cx 50 0).map (fun f=>(f.type,f.offset))=some (9,0):=by kernel_rfl
theorem f50_1:(fieldOf cx 50 1).map (fun f=>(f.type,f.offset))=some (36,1):=by kernel_rfl
theorem s55:sizeOf? cx 55=some 3:=by kernel_rfl
theorem a55:aggT? cx 55=some true:=by kernel_rfl
theorem f55_0:(fieldOf cx 55 0).map (fun f=>(f.type,f.offset))=some (44,0):=by kernel_rfl
theorem f55_1:(fieldOf cx 55 1).map (fun f=>(f.type,f.offset))=some (36,2):=by kernel_rfl
theorem s122:sizeOf? cx 122=some 2:=by kernel_rfl
end Go.Proofs
namespace Go.Ai
theorem store_elB {c : Ctx} {h : List Ob} {ty : TypeId} {n i g k : Nat} {e : TypeId} {xs l l' : List PV} {ex : Bool} (hs : sizeOf? c ty = some n) (hr : hget h i = .row e n xs ex g) (hk : xs[k]? = some (.agg l)) (hl : l.length = n) (hl' : l'.length = n) :
    store? c h ty (.el i g n k 0) (.p (.agg l'))=.wh undefA (hset h i (.row e n (xs.set k (.agg l')) ex g)):=by
  unfold store?
  simp only[hs]
  unfold storeEl
  have e1:(PV.agg l).cells=l:=rfl
  have e2:(PV.agg l').cells=l':=rfl
  simp only[pure1,e2,hl',Nat.beq_refl,cond,hr,Bool.and_self,pget_eq,hk,e1]
  unfold overK
  rw[Nat.ble_eq_true_of_le (by omega)]
  simp only[cond,lnf_eq,List.take_zero,List.nil_append,Nat.zero_add,hl',← hl,List.drop_length,List.append_nil]
  unfold reElem
  simp only[lnf_eq,hsetK_eq]
end Go.Ai
namespace Go.Proofs
open Go Go.Ai
theorem b25n(i g n:Nat):build? cx 25 [(0,.sl i g 10 0 n),(4,.p (.int .i64 1)),(5,.p (.int .i64 1))]=some (.agg [.sl i g 10 0 n,.p .nils,.p .nils,.p .nils,.p (.int .i64 1),.p (.int .i64 1)]):=by kernel_rfl
theorem make_pages{h:List Ob} {n:Nat} (hn:n<1000000):makeSlice? cx h 22 (.p (.int .i64 (n:Int))) (.p (.int .i64 (n:Int)))=.wn (.sl h.length 0 10 0 n) (.row 62 10 (List.replicate n zeroPage) true 0):=by
  obtain⟨i,hi,hs,hb1,hb2⟩:∃ i,cx.info 62=some i∧i.size=10∧1≤i.bytes∧i.bytes≤1000:=by
    cases hq:cx.info 62 with
    |none=>
      have:(cx.info 62).isSome=true:=by kernel_rfl
      rw[hq]at this;cases this
    |some i=>
      have h1:(cx.info 62).map (fun i=>(i.size,Nat.ble 1 i.bytes,Nat.ble i.bytes 1000))=some (10,true,true):=by kernel_rfl
      rw[hq]at h1
      have:(i.size,Nat.ble 1 i.bytes,Nat.ble i.bytes 1000)=(10,true,true):=Option.some.inj h1
      have h2:=Prod.mk.inj this
      have h3:=Prod.mk.inj h2.2
      exact⟨i,rfl,h2.1,Nat.le_of_ble_eq_true h3.1,Nat.le_of_ble_eq_true h3.2⟩
  unfold makeSlice?
  simp only[u22]
  unfold onII onI
  simp only[hi,z62,a62]
  have hm:¬(140737488355328<Int.mul i.bytes (n:Int)):=by
    show ¬(140737488355328<((i.bytes:Nat):Int)*(n:Int))
    have:i.bytes*n≤1000*n:=Nat.mul_le_mul_right n hb2
    have h2:((i.bytes*n:Nat):Int)≤((1000*n:Nat):Int):=by omega
    rw[Int.natCast_mul]at h2
    omega
  have:(!ltI (n:Int) 0 && !ltI (n:Int) (n:Int) && !ltI 140737488355328 (Int.mul i.bytes (n:Int))&&Nat.ble 1 i.bytes&&Nat.ble 1 i.size&&fitsA true i.size (.agg [.int .i64 0,.int .i64 0,.int .i64 0,.int .i64 0,.int .i64 0,.bool false,.nils,.int .i64 0,.str [],.nils]))=true:=by
    rw[hs]
    simp only[ltI_eq]
    rw[decide_eq_false (show ¬((n:Int)<0) by omega),decide_eq_false (show ¬((n:Int)<(n:Int)) by omega),decide_eq_false hm,Nat.ble_eq_true_of_le hb1]
    rfl
  rw[this]
  simp only[cond,hs]
  unfold Ai.newRow
  simp only[forceN_eq,lnf_eq,Int.toNat_natCast]
  rfl
def nums3(k:Nat):List Int:=(List.range k).map fun(j:Nat)=>((j+3:Nat):Int)
theorem nums3_succ(k:Nat):nums3 (k+1)=nums3 k++[((k+3:Nat):Int)]:=by unfold nums3;rw[List.range_succ,List.map_append];rfl
theorem nums3_len(k:Nat):(nums3 k).length=k:=by unfold nums3;simp
def pgV(kd:Int) (l:List PV):PV:=.agg (.int .i64 kd :: .int .i64 2::l)
def spP(kd:Int) (l:List PV):List PV:=(List.replicate 4096 zeroPage).set 2 (pgV kd l)
theorem spP_len(kd l):(spP kd l).length=4096:=by unfold spP;simp
theorem spP_at{kd l k} (h:k<4096):(spP kd l)[k]?=some (if k=2 then pgV kd l else zeroPage):=by
  unfold spP
  rw[List.getElem?_set]
  by_cases h2:k=2
  · subst h2;simp
  · rw[if_neg (Ne.symm h2),if_neg h2,List.getElem?_replicate,if_pos h]
def spH(kd:Int) (l:List PV) (ex:Bool) (b:AV):List Ob:=
  [.row 62 10 [pgV kd l] ex 0,.cells 25 [.p .nils,.p .nils,.p .nils,.p .nils,.p (.int .i64 0),.p (.int .i64 0)],.row 62 10 (spP kd l) true 0,
   .cells 25 [.sl 2 0 10 0 4096,b,.p .nils,.p .nils,.p (.int .i64 1),.p (.int .i64 1)],.cells 62 ((PV.int .i64 kd :: .int .i64 2::l).map .p)]
def sqH(kd:Int) (l:List PV) (ex:Bool):List Ob:=
  [.row 62 10 [pgV kd l] ex 0,.cells 25 [.p .nils,.p .nils,.p .nils,.p .nils,.p (.int .i64 0),.p (.int .i64 0)],.row 62 10 (List.replicate 4096 zeroPage) true 0,
   .cells 25 [.sl 2 0 10 0 4096,.p .nils,.p .nils,.p .nils,.p (.int .i64 1),.p (.int .i64 1)],.cells 62 ((PV.int .i64 kd :: .int .i64 2::l).map .p)]
theorem spH_len(kd l ex b):(spH kd l ex b).length=5:=rfl
theorem AccI.stepS {kd l0 ex} {b b1 : AV} {h1 : List Ob} {l : List Int} {x : Int} (A1 : AccI (spH kd l0 ex b) h1 b1 (l ++ [x])) :
    AccI (spH kd l0 ex b1) (hset h1 3 (.cells 25 [.sl 2 0 10 0 4096,b1,.p .nils,.p .nils,.p (.int .i64 1),.p (.int .i64 1)])) b1 (l++[x]):=by
  have hl:=A1.len
  rw[spH_len]at hl
  refine⟨by rw[hset_length,spH_len];exact hl,fun j hj=>?_,?_,fun q=>by simp at q,fun j hj=>by have:=A1.new j hj;exact this⟩
  · rw[spH_len]at hj
    rw[hget_hset _ _ _ _ (by omega)]
    by_cases q:j=3
    · subst q;rw[if_pos rfl];rfl
    · rw[if_neg q,A1.keep j (by rw[spH_len];exact hj)]
      rcases(by omega:j=0∨j=1∨j=2∨j=4)with rfl|rfl|rfl|rfl<;>rfl
  · have ho:=A1.own
    generalize hx:ints (l++[x])=xs at ho
    cases ho with
    |nil=>exact .nil
    |row hr=>
      have hni:=A1.new _ (List.mem_singleton.2 rfl)
      rw[spH_len]at hni
      exact .row (by rw[hget_hset _ _ _ _ (by omega),if_neg (by omega)];exact hr)
def SpE(kd:Int) (l:List PV) (ex:Bool) (e:AEnd) (h1:List Ob):Prop:=
  ∃ b,e=.ret (.agg [.sl 2 0 10 0 4096,b,.p .nils,.p .nils,.p (.int .i64 1),.p (.int .i64 1)])∧5≤h1.length∧hget h1 0=.row 62 10 [pgV kd l] ex 0∧hget h1 2=.row 62 10 (spP kd l) true 0∧Own h1 3 1 b (ints (nums3 4093))∧∀ j∈ids1 b,5≤j
section
variable {o:Orc} (ho:FreeT o)
include ho
theorem space140{kd:Int} {l:List PV} {ex:Bool} (hk0:kd ≠ 0) (hl8:l.length=8):Ct cx o (.fn 140 [.sl 0 0 10 0 1]) [.row 62 10 [pgV kd l] ex 0] (SpE kd l ex):=by
  refine ct140 (ho _ _ _ (by decide)) rfl ?_
  have zc:zeroSpace.cells.map AV.p=[.p .nils,.p .nils,.p .nils,.p .nils,.p (.int .i64 0),.p (.int .i64 0)]:=rfl
  have zp:(PV.agg [.int .i64 0,.int .i64 0,.int .i64 0,.int .i64 0,.int .i64 0,.bool false,.nils,.int .i64 0,.str [],.nils]).cells.map AV.p=[.p (.int .i64 0),.p (.int .i64 0),.p (.int .i64 0),.p (.int .i64 0),.p (.int .i64 0),.p (.bool false),.p .nils,.p (.int .i64 0),.p (.str []),.p .nils]:=rfl
  have mk:∀ hh:List Ob,makeSlice? cx hh 22 (.p (.int .i64 4096)) (.p (.int .i64 4096))=_:=fun hh=>make_pages (n:=4096) (by omega)
  have st0:=store_whole (c:=cx) (h:=[.row 62 10 [pgV kd l] ex 0,.cells 25 [.p .nils,.p .nils,.p .nils,.p .nils,.p (.int .i64 0),.p (.int .i64 0)],.row 62 10 (List.replicate 4096 zeroPage) true 0,.cells 25 [.p .nils,.p .nils,.p .nils,.p .nils,.p (.int .i64 0),.p (.int .i64 0)]]) (i:=3) (ty:=25) (v:=.agg [.sl 2 0 10 0 4096,.p .nils,.p .nils,.p .nils,.p (.int .i64 1),.p (.int .i64 1)]) s25 rfl rfl rfl rfl
  have hs0:hset [.row 62 10 [pgV kd l] ex 0,.cells 25 [.p .nils,.p .nils,.p .nils,.p .nils,.p (.int .i64 0),.p (.int .i64 0)],.row 62 10 (List.replicate 4096 zeroPage) true 0,.cells 25 [.p .nils,.p .nils,.p .nils,.p .nils,.p (.int .i64 0),.p (.int .i64 0)]] 3 (.cells 25 [.sl 2 0 10 0 4096,.p .nils,.p .nils,.p .nils,.p (.int .i64 1),.p (.int .i64 1)])=[.row 62 10 [pgV kd l] ex 0,.cells 25 [.p .nils,.p .nils,.p .nils,.p .nils,.p (.int .i64 0),.p (.int .i64 0)],.row 62 10 (List.replicate 4096 zeroPage) true 0,.cells 25 [.sl 2 0 10 0 4096,.p .nils,.p .nils,.p .nils,.p (.int .i64 1),.p (.int .i64 1)]]:=rfl
  have fa0:∀ k,fieldAddr? cx 25 (.ptr k 0) 0=some (.ptr k 0):=fun k=>fieldAddr_ptr (m:=0) f25_0 s22
  have fa1:∀ k,fieldAddr? cx 25 (.ptr k 0) 1=some (.ptr k 1):=fun k=>fieldAddr_ptr (m:=0) f25_1 s23
  have fp1:∀ k,fieldAddr? cx 62 (.ptr k 0) 1=some (.ptr k 1):=fun k=>fieldAddr_ptr (m:=0) f62_1 s3
  simp only[sc140r0,sc140r1,sc140r2,sc140r3,sc140r4,sc140r5,sc140r6,sc140r8,sc140r9,sc140r10,sc140r11,sc140r12,sc140r14,sc140,↓rwS,↓rwX,rwZ,rwT,rwG,Nat.reduceEqDiff,Nat.reduceAdd,reduceCtorEq,Nat.reduceLT,z25,zc,mk,b25n,List.cons_append,List.nil_append,List.length_cons,List.length_nil,st0,hs0]
  -- the pages that are given
  refine xC_loop (fun m t h' d r => (m = 1 ∧ d = [] ∧ r = none ∧ t.get 2 = .ptr 1 0 ∧ t.get 3 = .ptr 3 0 ∧ t.get 9 = .sl 0 0 10 0 1 ∧ t.get 10 = .p (.int .i64 1) ∧ t.get 11 = .p (.int .i64 0) ∧
      h'=[.row 62 10 [pgV kd l] ex 0,.cells 25 [.p .nils,.p .nils,.p .nils,.p .nils,.p (.int .i64 0),.p (.int .i64 0)],.row 62 10 (List.replicate 4096 zeroPage) true 0,.cells 25 [.sl 2 0 10 0 4096,.p .nils,.p .nils,.p .nils,.p (.int .i64 1),.p (.int .i64 1)]]) ∨
    (m=0∧d=[]∧r=none∧t.get 2=.ptr 1 0∧t.get 3=.ptr 3 0∧t.get 9=.sl 0 0 10 0 1∧t.get 10=.p (.int .i64 1)∧t.get 11=.p (.int .i64 1)∧h'=spH kd l ex (.p .nils))) 1 ?_ ?_
  · left
    simp only[↓rwA,rwB,rwG,Nat.reduceEqDiff,Nat.reduceAdd,reduceCtorEq,Nat.reduceLT,len_sl u22,true_and]
    exact⟨rfl,trivial⟩
  · have hlp:(PV.int .i64 kd :: .int .i64 2::l).length=10:=by simp [hl8]
    rintro m t h' d r (⟨rfl,rfl,rfl,t2,t3,t9,t10,t11,rfl⟩|⟨rfl,rfl,rfl,t2,t3,t9,t10,t11,rfl⟩)
    · have ix0:indexAddr? cx 22 (.sl 0 0 10 0 1) (.p (.int .i64 0))=some (.el 0 0 10 0 0):=by kernel_rfl
      have ix2:indexAddr? cx 22 (.sl 2 0 10 0 4096) (.p (.int .i64 2))=some (.el 2 0 10 2 0):=by kernel_rfl
      have ld0:load? cx [.row 62 10 [pgV kd l] ex 0,.cells 25 [.p .nils,.p .nils,.p .nils,.p .nils,.p (.int .i64 0),.p (.int .i64 0)],.row 62 10 (List.replicate 4096 zeroPage) true 0,.cells 25 [.sl 2 0 10 0 4096,.p .nils,.p .nils,.p .nils,.p (.int .i64 1),.p (.int .i64 1)]] 62 (.el 0 0 10 0 0)=some (.p (pgV kd l)):=
        Sl.load (k:=0) (xs:=[pgV kd l]) (sz:=10) (v:=.sl 0 0 10 0 1) (.sl (xs:=[pgV kd l]) rfl rfl) (by simp) (eok_agg a62 s62 hlp)
      have st1:=store_whole (c:=cx) (h:=[.row 62 10 [pgV kd l] ex 0,.cells 25 [.p .nils,.p .nils,.p .nils,.p .nils,.p (.int .i64 0),.p (.int .i64 0)],.row 62 10 (List.replicate 4096 zeroPage) true 0,.cells 25 [.sl 2 0 10 0 4096,.p .nils,.p .nils,.p .nils,.p (.int .i64 1),.p (.int .i64 1)],.cells 62 [.p (.int .i64 0),.p (.int .i64 0),.p (.int .i64 0),.p (.int .i64 0),.p (.int .i64 0),.p (.bool false),.p .nils,.p (.int .i64 0),.p (.str []),.p .nils]]) (i:=4) (ty:=62) (v:=.p (pgV kd l)) s62 rfl rfl (by rw[List.length_map];exact hlp) rfl
      have hs1:hset [.row 62 10 [pgV kd l] ex 0,.cells 25 [.p .nils,.p .nils,.p .nils,.p .nils,.p (.int .i64 0),.p (.int .i64 0)],.row 62 10 (List.replicate 4096 zeroPage) true 0,.cells 25 [.sl 2 0 10 0 4096,.p .nils,.p .nils,.p .nils,.p (.int .i64 1),.p (.int .i64 1)],.cells 62 [.p (.int .i64 0),.p (.int .i64 0),.p (.int .i64 0),.p (.int .i64 0),.p (.int .i64 0),.p (.bool false),.p .nils,.p (.int .i64 0),.p (.str []),.p .nils]] 4 (.cells 62 ((pgV kd l).cells.map .p))=sqH kd l ex:=rfl
      have l22:load? cx (sqH kd l ex) 22 (.ptr 3 0)=some (.sl 2 0 10 0 4096):=load_one a22 rfl rfl
      have l3:load? cx (sqH kd l ex) 3 (.ptr 4 1)=some (.p (.int .i64 2)):=load_one a3 rfl rfl
      have l62:load? cx (sqH kd l ex) 62 (.ptr 4 0)=some (.p (pgV kd l)):=(load_whole a62 s62 rfl (by rw[List.length_map];exact hlp)).trans (congrArg some (mkAgg_p _))
      have st2:store? cx (sqH kd l ex) 62 (.el 2 0 10 2 0) (.p (pgV kd l))=.wh undefA (spH kd l ex (.p .nils)):=
        store_elB (xs:=List.replicate 4096 zeroPage) s62 rfl (by rw[List.getElem?_replicate,if_pos (by decide)];rfl) rfl hlp
      have lt1:decide ((0:Int)<1)=true:=rfl
      simp only[sc140r0,sc140r1,sc140r2,sc140r3,sc140r4,sc140r5,sc140r6,sc140r8,sc140r9,sc140r10,sc140r11,sc140r12,sc140r14,sc140,sc140l7,↓rwS,↓rwX,rwZ,rwT,rwG,Nat.reduceEqDiff,Nat.reduceAdd,reduceCtorEq,Nat.reduceLT,t2,t3,t9,t10,t11,ix0,ld0,z62,↓zp,List.cons_append,List.nil_append,List.length_cons,List.length_nil,st1,hs1,fa0,fp1,l22,l3,l62,ix2,st2,lt1]
      refine⟨0,by omega,.inr ⟨rfl,trivial,trivial,?_⟩⟩
      simp only[↓rwA,rwB,rwG,Nat.reduceEqDiff,Nat.reduceAdd,reduceCtorEq,Nat.reduceLT,t2,t3,t9,t10,true_and]
      exact⟨rfl,trivial⟩
    · have lt1:decide ((1:Int)<1)=false:=rfl
      have bq:Nat.beq 0 0=true:=rfl
      simp only[sc140r0,sc140r1,sc140r2,sc140r3,sc140r4,sc140r5,sc140r6,sc140r8,sc140r9,sc140r10,sc140r11,sc140r12,sc140r14,sc140,sc140l7,↓rwS,↓rwX,rwZ,rwT,rwG,Nat.reduceEqDiff,Nat.reduceAdd,reduceCtorEq,Nat.reduceLT,t2,t3,t9,t10,t11,lt1,bq,cond_true]
      refine xC_loop (fun m t h' d r=>∃ (k:Nat) (b:AV),m=4096-k∧2≤k∧k≤4096∧d=[]∧r=none∧t.get 2=.ptr 1 0∧t.get 3=.ptr 3 0∧t.get 6=.p (.int .i64 (k:Int))∧AccI (spH kd l ex b) h' b (nums3 (k-3))) 4094 ?_ ?_
      · refine⟨2,.p .nils,rfl,by omega,by omega,rfl,rfl,?_⟩
        simp only[↓rwA,rwB,rwG,Nat.reduceEqDiff,Nat.reduceAdd,reduceCtorEq,Nat.reduceLT,t2,t3,true_and]
        exact⟨rfl,AccI.start _⟩
      · clear t2 t3 t9 t10 t11
        rintro m t h' d r ⟨k,b,rfl,hk2,hk4,rfl,rfl,t2,t3,t6,A⟩
        have hl:=A.len
        rw[spH_len]at hl
        have y0:hget h' 0=.row 62 10 [pgV kd l] ex 0:=A.keep 0 (by rw[spH_len];decide)
        have y1:hget h' 1=.cells 25 [.p .nils,.p .nils,.p .nils,.p .nils,.p (.int .i64 0),.p (.int .i64 0)]:=A.keep 1 (by rw[spH_len];decide)
        have y2:hget h' 2=.row 62 10 (spP kd l) true 0:=A.keep 2 (by rw[spH_len];decide)
        have y3:hget h' 3=.cells 25 [.sl 2 0 10 0 4096,b,.p .nils,.p .nils,.p (.int .i64 1),.p (.int .i64 1)]:=A.keep 3 (by rw[spH_len];decide)
        have d0:load? cx h' 22 (.ptr 3 0)=some (.sl 2 0 10 0 4096):=load_one a22 y3 rfl
        have d1:load? cx h' 23 (.ptr 3 1)=some b:=load_one a23 y3 rfl
        have e0:lenW cx h' 22 (.sl 2 0 10 0 4096)=.w (.p (.int .i64 (4096:Int))):=len_sl u22
        have w1:=one64 (show k<4611686018427387904 by omega)
        by_cases hlt:(k:Int)<4096
        · have hk:k<4096:=by omega
          have HS:Sl h' 10 (.sl 2 0 10 0 4096) (spP kd l):=by
            have:=(Co1.own y2).sl' (.own _ _)
            rwa[spP_len]at this
          have ix:indexAddr? cx 22 (.sl 2 0 10 0 4096) (.p (.int .i64 (k:Int)))=some (.el 2 0 10 k 0):=by
            rw[HS.at (sz:=9) u22 s62 (by omega) (by rw[spP_len];omega),Int.toNat_natCast]
            show some (AV.el 2 0 10 (0+k) 0)=_
            rw[Nat.zero_add]
          have fe:fieldAddr? cx 62 (.el 2 0 10 k 0) 0=some (.el 2 0 10 k 0):=by
            have hf:=f62_0
            unfold fieldAddr?
            cases hq:fieldOf cx 62 0 with
            |none=>rw[hq]at hf;cases hf
            |some fd=>
              rw[hq]at hf
              have h1:=Option.some.inj hf
              simp only[Prod.mk.injEq]at h1
              simp only[h1.1,h1.2,s3,forceN_eq,Nat.zero_add]
          have ldk:load? cx h' 3 (.el 2 0 10 k 0)=some (.p (.int .i64 (if k=2 then kd else 0))):=by
            show loadEl cx h' 3 2 0 10 k 0=_
            unfold loadEl Ai.rowAt
            rw[y2]
            simp only[Nat.beq_refl,Bool.and_self,cond,pget_eq,spP_at hk]
            unfold part?
            rw[a3]
            by_cases h2:k=2
            · simp only[h2,if_true];rfl
            · simp only[h2,if_false];rfl
          by_cases h2:k=2
          · subst h2
            have ek:decide (kd=0)=false:=decide_eq_false hk0
            simp only[sc140r0,sc140r1,sc140r2,sc140r3,sc140r4,sc140r5,sc140r6,sc140l7,sc140r8,sc140r9,sc140r10,sc140r11,sc140r12,sc140l13,sc140r14,sc140,↓rwS,↓rwX,rwZ,rwT,rwG,Nat.reduceEqDiff,Nat.reduceAdd,reduceCtorEq,Nat.reduceLT,t2,t3,t6,fa0,fa1,d0,d1,e0,hlt,decide_true,ix,fe,ldk,ek,w1]
            refine⟨_,?_,3,b,rfl,by omega,by omega,trivial,trivial,?_⟩
            · omega
            · simp only[↓rwA,rwB,rwG,Nat.reduceEqDiff,Nat.reduceAdd,reduceCtorEq,Nat.reduceLT,t2,t3,true_and]
              exact A
          · rw[if_neg h2]at ldk
            have ek:decide ((0:Int)=0)=true:=rfl
            obtain⟨b1,h1,A1,q1,q2⟩:=A.app (o:=o) (x:=(k:Int)) (by rw[nums3_len];omega)
            have z3:hget h1 3=.cells 25 [.sl 2 0 10 0 4096,b,.p .nils,.p .nils,.p (.int .i64 1),.p (.int .i64 1)]:=A1.keep 3 (by rw[spH_len];decide)
            have ob:b1.cells?=some [b1]:=by
              have:=A1.co.one_cell (accV_is _);exact this
            have st:=store_cell (c:=cx) (off:=1) s23 z3 ob (show 1<6 by decide)
            have A2:=A1.stepS
            have en:nums3 (k-3)++[(k:Int)]=nums3 (k+1-3):=by
              have:k+1-3=(k-3)+1:=by omega
              rw[this,nums3_succ]
              have:((k-3+3:Nat):Int)=(k:Int):=by omega
              rw[this]
            rw[en]at A2
            simp only[sc140r0,sc140r1,sc140r2,sc140r3,sc140r4,sc140r5,sc140r6,sc140l7,sc140r8,sc140r9,sc140r10,sc140r11,sc140r12,sc140l13,sc140r14,sc140,↓rwS,↓rwX,rwZ,rwT,rwG,Nat.reduceEqDiff,Nat.reduceAdd,reduceCtorEq,Nat.reduceLT,t2,t3,t6,fa0,fa1,d0,d1,e0,hlt,decide_true,ix,fe,ldk,ek,w1,q1,appW_sl u23 u23,q2,st]
            refine⟨_,?_,k+1,b1,rfl,by omega,by omega,trivial,trivial,?_⟩
            · omega
            · simp only[↓rwA,rwB,rwG,Nat.reduceEqDiff,Nat.reduceAdd,reduceCtorEq,Nat.reduceLT,t2,t3,true_and]
              exact A2
        · have hk:k=4096:=by omega
          subst hk
          have p1:load? cx h' 25 (.ptr 3 0)=some (.agg [.sl 2 0 10 0 4096,b,.p .nils,.p .nils,.p (.int .i64 1),.p (.int .i64 1)]):=(load_whole a25 s25 y3 rfl).trans rfl
          have p2:store? cx h' 25 (.ptr 1 0) (.agg [.sl 2 0 10 0 4096,b,.p .nils,.p .nils,.p (.int .i64 1),.p (.int .i64 1)])=.ws undefA 1 (.cells 25 [.sl 2 0 10 0 4096,b,.p .nils,.p .nils,.p (.int .i64 1),.p (.int .i64 1)]):=store_whole s25 y1 rfl rfl rfl
          have p3:load? cx (hset h' 1 (.cells 25 [.sl 2 0 10 0 4096,b,.p .nils,.p .nils,.p (.int .i64 1),.p (.int .i64 1)])) 25 (.ptr 1 0)=some (.agg [.sl 2 0 10 0 4096,b,.p .nils,.p .nils,.p (.int .i64 1),.p (.int .i64 1)]):=by
            rw[load_whole (n:=6) a25 s25 (by rw[hget_hset _ _ _ _ (by omega),if_pos rfl]) rfl];rfl
          simp only[sc140r0,sc140r1,sc140r2,sc140r3,sc140r4,sc140r5,sc140r6,sc140l7,sc140r8,sc140r9,sc140r10,sc140r11,sc140r12,sc140l13,sc140r14,sc140,↓rwS,↓rwX,rwZ,rwT,rwG,Nat.reduceEqDiff,Nat.reduceAdd,reduceCtorEq,Nat.reduceLT,t2,t3,t6,fa0,fa1,d0,d1,e0,hlt,decide_false,p1,p2,p3]
          refine⟨b,rfl,by rw[hset_length];omega,?_,?_,?_,A.new⟩
          · rw[hget_hset _ _ _ _ (by omega),if_neg (by omega)];exact y0
          · rw[hget_hset _ _ _ _ (by omega),if_neg (by omega)];exact y2
          · have ho:=A.own
            generalize hx:ints (nums3 (4096-3))=xs at ho
            cases ho with
            |nil=>exact .nil
            |row hr=>
              have hni:=A.new _ (List.mem_singleton.2 rfl)
              rw[spH_len]at hni
              exact .row (by rw[hget_hset _ _ _ _ (by omega),if_neg (by omega)];exact hr)
end
end Go.Proofs

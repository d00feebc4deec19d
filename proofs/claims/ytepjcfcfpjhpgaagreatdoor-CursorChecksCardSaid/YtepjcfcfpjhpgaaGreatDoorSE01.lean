/- What is proved: digests that the examples need, by runs. Conditions: none. -/
import Derived.Test.YtepjcfcfpjhpgaaGreatDoorSC02
set_option linter.all false
namespace Go.Proofs
open Go Go.Ai
set_option maxRecDepth 1000000
def sumI0_0:List UInt8:=[49]
def sumV0_0:PV:=kS 107 134 178 115 255 52 252 225 157 107 128 78 255 90 63 87
theorem sumR0_0:retIs (callN cx blkOrc 1000000 (.fn 197 [.p (.str sumI0_0)]) [] none) (.p sumV0_0)=true:=by decide +kernel
def sumI0_1:List UInt8:=[52]
def sumV0_1:PV:=kS 75 34 119 119 212 221 31 198 28 111 136 79 72 100 29 2
theorem sumR0_1:retIs (callN cx blkOrc 1000000 (.fn 197 [.p (.str sumI0_1)]) [] none) (.p sumV0_1)=true:=by decide +kernel
def sumI0_2:List UInt8:=[0,0,2,1,97,0,107,134,178,115,255,52,252,225,157,107,128,78,255,90,63,87,1,100,0,75,34,119,119,212,221,31,198,28,111,136,79,72,100,29,2]
def sumV0_2:PV:=kS 215 161 170 68 20 24 41 191 177 24 38 232 51 115 193 92
theorem sumR0_2:retIs (callN cx blkOrc 1000000 (.fn 197 [.p (.str sumI0_2)]) [] none) (.p sumV0_2)=true:=by decide +kernel
noncomputable def sumTab:List (List UInt8×PV):=[(sumI0_0,sumV0_0),(sumI0_1,sumV0_1),(sumI0_2,sumV0_2)]
noncomputable def sumOrc:Orc:=memoS 197 sumTab blkOrc
theorem sumOrc_ok:OrcOk cx Tryz.prog sumOrc:=by
 refine memoS_ok blkOrc_ok fun s v hm=>?_
 simp only[sumTab,List.mem_cons,List.not_mem_nil,or_false,Prod.mk.injEq]at hm
 rcases hm with⟨rfl,rfl⟩|⟨rfl,rfl⟩|⟨rfl,rfl⟩
 ·exact memo_ok cx_ok blkOrc_ok sumR0_0 rfl
 ·exact memo_ok cx_ok blkOrc_ok sumR0_1 rfl
 ·exact memo_ok cx_ok blkOrc_ok sumR0_2 rfl
end Go.Proofs

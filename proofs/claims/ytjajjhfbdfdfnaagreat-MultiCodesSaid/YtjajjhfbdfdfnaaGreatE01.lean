/- What is proved: digests of the examples' contents, by runs, part 0. Conditions: none. -/
import Derived.Test.YtjajjhfbdfdfnaaGreatD02
set_option linter.all false
set_option linter.unusedVariables false
set_option linter.unusedSimpArgs false
set_option linter.unnecessarySimpa false
set_option linter.deprecated false
namespace Go.Proofs
open Go Go.Ai
set_option maxRecDepth 1000000
def sumI0_0 : List UInt8 := []
def sumV0_0 : PV := .agg [.int .u8 (.ofNat 227), .int .u8 (.ofNat 176), .int .u8 (.ofNat 196), .int .u8 (.ofNat 66), .int .u8 (.ofNat 152), .int .u8 (.ofNat 252), .int .u8 (.ofNat 28), .int .u8 (.ofNat 20), .int .u8 (.ofNat 154), .int .u8 (.ofNat 251), .int .u8 (.ofNat 244), .int .u8 (.ofNat 200), .int .u8 (.ofNat 153), .int .u8 (.ofNat 111), .int .u8 (.ofNat 185), .int .u8 (.ofNat 36)]
theorem sumR0_0 : retIs (callN cx blkOrc 1000000 (.fn 135 [.p (.str sumI0_0)]) [] none) (.p sumV0_0) = true := by decide +kernel
def sumI0_1 : List UInt8 := [121]
def sumV0_1 : PV := .agg [.int .u8 (.ofNat 161), .int .u8 (.ofNat 252), .int .u8 (.ofNat 228), .int .u8 (.ofNat 54), .int .u8 (.ofNat 56), .int .u8 (.ofNat 84), .int .u8 (.ofNat 255), .int .u8 (.ofNat 136), .int .u8 (.ofNat 140), .int .u8 (.ofNat 255), .int .u8 (.ofNat 75), .int .u8 (.ofNat 142), .int .u8 (.ofNat 120), .int .u8 (.ofNat 117), .int .u8 (.ofNat 214), .int .u8 (.ofNat 0)]
theorem sumR0_1 : retIs (callN cx blkOrc 1000000 (.fn 135 [.p (.str sumI0_1)]) [] none) (.p sumV0_1) = true := by decide +kernel
def sumI0_2 : List UInt8 := [1, 118]
def sumV0_2 : PV := .agg [.int .u8 (.ofNat 222), .int .u8 (.ofNat 233), .int .u8 (.ofNat 190), .int .u8 (.ofNat 218), .int .u8 (.ofNat 65), .int .u8 (.ofNat 198), .int .u8 (.ofNat 183), .int .u8 (.ofNat 250), .int .u8 (.ofNat 78), .int .u8 (.ofNat 59), .int .u8 (.ofNat 170), .int .u8 (.ofNat 200), .int .u8 (.ofNat 192), .int .u8 (.ofNat 61), .int .u8 (.ofNat 183), .int .u8 (.ofNat 71)]
theorem sumR0_2 : retIs (callN cx blkOrc 1000000 (.fn 135 [.p (.str sumI0_2)]) [] none) (.p sumV0_2) = true := by decide +kernel
def sumI0_3 : List UInt8 := [0, 0, 1, 1, 107, 0, 114, 155, 71, 195, 216, 49, 2, 186, 253, 175, 68, 178, 192, 185, 10, 61]
def sumV0_3 : PV := .agg [.int .u8 (.ofNat 2), .int .u8 (.ofNat 207), .int .u8 (.ofNat 7), .int .u8 (.ofNat 70), .int .u8 (.ofNat 116), .int .u8 (.ofNat 112), .int .u8 (.ofNat 131), .int .u8 (.ofNat 166), .int .u8 (.ofNat 79), .int .u8 (.ofNat 24), .int .u8 (.ofNat 188), .int .u8 (.ofNat 133), .int .u8 (.ofNat 47), .int .u8 (.ofNat 103), .int .u8 (.ofNat 132), .int .u8 (.ofNat 114)]
theorem sumR0_3 : retIs (callN cx blkOrc 1000000 (.fn 135 [.p (.str sumI0_3)]) [] none) (.p sumV0_3) = true := by decide +kernel
def sumI0_4 : List UInt8 := [0, 0, 1, 1, 107, 0, 173, 172, 230, 169, 65, 52, 238, 116, 141, 85, 172, 59, 251, 18, 193, 204]
def sumV0_4 : PV := .agg [.int .u8 (.ofNat 203), .int .u8 (.ofNat 242), .int .u8 (.ofNat 16), .int .u8 (.ofNat 18), .int .u8 (.ofNat 195), .int .u8 (.ofNat 238), .int .u8 (.ofNat 118), .int .u8 (.ofNat 230), .int .u8 (.ofNat 118), .int .u8 (.ofNat 17), .int .u8 (.ofNat 163), .int .u8 (.ofNat 14), .int .u8 (.ofNat 233), .int .u8 (.ofNat 134), .int .u8 (.ofNat 110), .int .u8 (.ofNat 171)]
theorem sumR0_4 : retIs (callN cx blkOrc 1000000 (.fn 135 [.p (.str sumI0_4)]) [] none) (.p sumV0_4) = true := by decide +kernel
def sumI0_5 : List UInt8 := [0, 0, 1, 1, 107, 0, 222, 233, 190, 218, 65, 198, 183, 250, 78, 59, 170, 200, 192, 61, 183, 71]
def sumV0_5 : PV := .agg [.int .u8 (.ofNat 166), .int .u8 (.ofNat 19), .int .u8 (.ofNat 38), .int .u8 (.ofNat 118), .int .u8 (.ofNat 57), .int .u8 (.ofNat 170), .int .u8 (.ofNat 9), .int .u8 (.ofNat 56), .int .u8 (.ofNat 205), .int .u8 (.ofNat 73), .int .u8 (.ofNat 133), .int .u8 (.ofNat 245), .int .u8 (.ofNat 101), .int .u8 (.ofNat 213), .int .u8 (.ofNat 134), .int .u8 (.ofNat 32)]
theorem sumR0_5 : retIs (callN cx blkOrc 1000000 (.fn 135 [.p (.str sumI0_5)]) [] none) (.p sumV0_5) = true := by decide +kernel
def sumI0_6 : List UInt8 := [0, 0, 1, 1, 118, 0, 227, 176, 196, 66, 152, 252, 28, 20, 154, 251, 244, 200, 153, 111, 185, 36]
def sumV0_6 : PV := .agg [.int .u8 (.ofNat 176), .int .u8 (.ofNat 42), .int .u8 (.ofNat 140), .int .u8 (.ofNat 13), .int .u8 (.ofNat 8), .int .u8 (.ofNat 32), .int .u8 (.ofNat 46), .int .u8 (.ofNat 21), .int .u8 (.ofNat 27), .int .u8 (.ofNat 32), .int .u8 (.ofNat 78), .int .u8 (.ofNat 249), .int .u8 (.ofNat 124), .int .u8 (.ofNat 5), .int .u8 (.ofNat 137), .int .u8 (.ofNat 205)]
theorem sumR0_6 : retIs (callN cx blkOrc 1000000 (.fn 135 [.p (.str sumI0_6)]) [] none) (.p sumV0_6) = true := by decide +kernel
def sumI0_7 : List UInt8 := [0, 0, 1, 1, 107, 1, 0, 0, 0, 4, 66, 217, 16, 202, 128, 96, 173, 131, 234, 1, 56, 26, 44, 65, 58, 154]
def sumV0_7 : PV := .agg [.int .u8 (.ofNat 210), .int .u8 (.ofNat 33), .int .u8 (.ofNat 151), .int .u8 (.ofNat 206), .int .u8 (.ofNat 219), .int .u8 (.ofNat 83), .int .u8 (.ofNat 43), .int .u8 (.ofNat 90), .int .u8 (.ofNat 244), .int .u8 (.ofNat 23), .int .u8 (.ofNat 208), .int .u8 (.ofNat 28), .int .u8 (.ofNat 209), .int .u8 (.ofNat 61), .int .u8 (.ofNat 240), .int .u8 (.ofNat 102)]
theorem sumR0_7 : retIs (callN cx blkOrc 1000000 (.fn 135 [.p (.str sumI0_7)]) [] none) (.p sumV0_7) = true := by decide +kernel
def sumI0_8 : List UInt8 := [20, 120, 120, 120, 120, 120, 120, 120, 120, 120, 120, 120, 120, 120, 120, 120, 120, 120, 120, 120, 120, 20, 121, 121, 121, 121, 121, 121, 121, 121, 121, 121, 121, 121, 121, 121, 121, 121, 121, 121, 121, 121]
def sumV0_8 : PV := .agg [.int .u8 (.ofNat 69), .int .u8 (.ofNat 19), .int .u8 (.ofNat 99), .int .u8 (.ofNat 162), .int .u8 (.ofNat 160), .int .u8 (.ofNat 46), .int .u8 (.ofNat 75), .int .u8 (.ofNat 209), .int .u8 (.ofNat 187), .int .u8 (.ofNat 96), .int .u8 (.ofNat 131), .int .u8 (.ofNat 79), .int .u8 (.ofNat 28), .int .u8 (.ofNat 237), .int .u8 (.ofNat 182), .int .u8 (.ofNat 82)]
theorem sumR0_8 : retIs (callN cx blkOrc 1000000 (.fn 135 [.p (.str sumI0_8)]) [] none) (.p sumV0_8) = true := by decide +kernel
def sumI0_9 : List UInt8 := [0, 0, 2, 1, 118, 0, 227, 176, 196, 66, 152, 252, 28, 20, 154, 251, 244, 200, 153, 111, 185, 36, 20, 120, 120, 120, 120, 120, 120, 120, 120, 120, 120, 120, 120, 120, 120, 120, 120, 120, 120, 120, 120, 0, 227, 176, 196, 66, 152, 252, 28, 20, 154, 251, 244, 200, 153, 111, 185, 36]
def sumV0_9 : PV := .agg [.int .u8 (.ofNat 157), .int .u8 (.ofNat 217), .int .u8 (.ofNat 236), .int .u8 (.ofNat 234), .int .u8 (.ofNat 212), .int .u8 (.ofNat 63), .int .u8 (.ofNat 210), .int .u8 (.ofNat 145), .int .u8 (.ofNat 170), .int .u8 (.ofNat 207), .int .u8 (.ofNat 162), .int .u8 (.ofNat 183), .int .u8 (.ofNat 72), .int .u8 (.ofNat 53), .int .u8 (.ofNat 57), .int .u8 (.ofNat 13)]
theorem sumR0_9 : retIs (callN cx blkOrc 1000000 (.fn 135 [.p (.str sumI0_9)]) [] none) (.p sumV0_9) = true := by decide +kernel
def sumI0_10 : List UInt8 := [20, 120, 120, 120, 120, 120, 120, 120, 120, 120, 120, 120, 120, 120, 120, 120, 120, 120, 120, 120, 120, 20, 121, 121, 121, 121, 121, 121, 121, 121, 121, 121, 121, 121, 121, 121, 121, 121, 121, 121, 121, 121, 20, 122, 122, 122, 122, 122, 122, 122, 122, 122, 122, 122, 122, 122, 122, 122, 122, 122, 122, 122, 122]
def sumV0_10 : PV := .agg [.int .u8 (.ofNat 173), .int .u8 (.ofNat 172), .int .u8 (.ofNat 230), .int .u8 (.ofNat 169), .int .u8 (.ofNat 65), .int .u8 (.ofNat 52), .int .u8 (.ofNat 238), .int .u8 (.ofNat 116), .int .u8 (.ofNat 141), .int .u8 (.ofNat 85), .int .u8 (.ofNat 172), .int .u8 (.ofNat 59), .int .u8 (.ofNat 251), .int .u8 (.ofNat 18), .int .u8 (.ofNat 193), .int .u8 (.ofNat 204)]
theorem sumR0_10 : retIs (callN cx blkOrc 1000000 (.fn 135 [.p (.str sumI0_10)]) [] none) (.p sumV0_10) = true := by decide +kernel
def sumI0_11 : List UInt8 := [0, 0, 4, 1, 118, 0, 227, 176, 196, 66, 152, 252, 28, 20, 154, 251, 244, 200, 153, 111, 185, 36, 20, 120, 120, 120, 120, 120, 120, 120, 120, 120, 120, 120, 120, 120, 120, 120, 120, 120, 120, 120, 120, 0, 227, 176, 196, 66, 152, 252, 28, 20, 154, 251, 244, 200, 153, 111, 185, 36, 20, 121, 121, 121, 121, 121, 121, 121, 121, 121, 121, 121, 121, 121, 121, 121, 121, 121, 121, 121, 121, 0, 227, 176, 196, 66, 152, 252, 28, 20, 154, 251, 244, 200, 153, 111, 185, 36, 20, 122, 122, 122, 122, 122, 122, 122, 122, 122, 122, 122, 122, 122, 122, 122, 122, 122, 122, 122, 122, 0, 227, 176, 196, 66, 152, 252, 28, 20, 154, 251, 244, 200, 153, 111, 185, 36]
def sumV0_11 : PV := .agg [.int .u8 (.ofNat 66), .int .u8 (.ofNat 217), .int .u8 (.ofNat 16), .int .u8 (.ofNat 202), .int .u8 (.ofNat 128), .int .u8 (.ofNat 96), .int .u8 (.ofNat 173), .int .u8 (.ofNat 131), .int .u8 (.ofNat 234), .int .u8 (.ofNat 1), .int .u8 (.ofNat 56), .int .u8 (.ofNat 26), .int .u8 (.ofNat 44), .int .u8 (.ofNat 65), .int .u8 (.ofNat 58), .int .u8 (.ofNat 154)]
theorem sumR0_11 : retIs (callN cx blkOrc 1000000 (.fn 135 [.p (.str sumI0_11)]) [] none) (.p sumV0_11) = true := by decide +kernel
end Go.Proofs

/- What is proved: digests of the examples' contents, by runs, part 0. Conditions: none. -/
import Derived.Test.YtjajjhfbdfdfnaaGreatSC03
set_option linter.all false
namespace Go.Proofs
open Go Go.Ai
set_option maxRecDepth 1000000
def sumI0_0 : List UInt8 := []
def sumV0_0 : PV := kS 227 176 196 66 152 252 28 20 154 251 244 200 153 111 185 36
theorem sumR0_0 : retIs (callN cx blkOrc 1000000 (.fn 135 [.p (.str sumI0_0)]) [] none) (.p sumV0_0) = true := by decide +kernel
def sumI0_1 : List UInt8 := [121]
def sumV0_1 : PV := kS 161 252 228 54 56 84 255 136 140 255 75 142 120 117 214 0
theorem sumR0_1 : retIs (callN cx blkOrc 1000000 (.fn 135 [.p (.str sumI0_1)]) [] none) (.p sumV0_1) = true := by decide +kernel
def sumI0_2 : List UInt8 := [1, 118]
def sumV0_2 : PV := kS 222 233 190 218 65 198 183 250 78 59 170 200 192 61 183 71
theorem sumR0_2 : retIs (callN cx blkOrc 1000000 (.fn 135 [.p (.str sumI0_2)]) [] none) (.p sumV0_2) = true := by decide +kernel
def sumI0_3 : List UInt8 := [0, 0, 1, 1, 107, 0, 114, 155, 71, 195, 216, 49, 2, 186, 253, 175, 68, 178, 192, 185, 10, 61]
def sumV0_3 : PV := kS 2 207 7 70 116 112 131 166 79 24 188 133 47 103 132 114
theorem sumR0_3 : retIs (callN cx blkOrc 1000000 (.fn 135 [.p (.str sumI0_3)]) [] none) (.p sumV0_3) = true := by decide +kernel
def sumI0_4 : List UInt8 := [0, 0, 1, 1, 107, 0, 173, 172, 230, 169, 65, 52, 238, 116, 141, 85, 172, 59, 251, 18, 193, 204]
def sumV0_4 : PV := kS 203 242 16 18 195 238 118 230 118 17 163 14 233 134 110 171
theorem sumR0_4 : retIs (callN cx blkOrc 1000000 (.fn 135 [.p (.str sumI0_4)]) [] none) (.p sumV0_4) = true := by decide +kernel
def sumI0_5 : List UInt8 := [0, 0, 1, 1, 107, 0, 222, 233, 190, 218, 65, 198, 183, 250, 78, 59, 170, 200, 192, 61, 183, 71]
def sumV0_5 : PV := kS 166 19 38 118 57 170 9 56 205 73 133 245 101 213 134 32
theorem sumR0_5 : retIs (callN cx blkOrc 1000000 (.fn 135 [.p (.str sumI0_5)]) [] none) (.p sumV0_5) = true := by decide +kernel
def sumI0_6 : List UInt8 := [0, 0, 1, 1, 118, 0, 227, 176, 196, 66, 152, 252, 28, 20, 154, 251, 244, 200, 153, 111, 185, 36]
def sumV0_6 : PV := kS 176 42 140 13 8 32 46 21 27 32 78 249 124 5 137 205
theorem sumR0_6 : retIs (callN cx blkOrc 1000000 (.fn 135 [.p (.str sumI0_6)]) [] none) (.p sumV0_6) = true := by decide +kernel
def sumI0_7 : List UInt8 := [0, 0, 1, 1, 107, 1, 0, 0, 0, 4, 66, 217, 16, 202, 128, 96, 173, 131, 234, 1, 56, 26, 44, 65, 58, 154]
def sumV0_7 : PV := kS 210 33 151 206 219 83 43 90 244 23 208 28 209 61 240 102
theorem sumR0_7 : retIs (callN cx blkOrc 1000000 (.fn 135 [.p (.str sumI0_7)]) [] none) (.p sumV0_7) = true := by decide +kernel
def sumI0_8 : List UInt8 := [20, 120, 120, 120, 120, 120, 120, 120, 120, 120, 120, 120, 120, 120, 120, 120, 120, 120, 120, 120, 120, 20, 121, 121, 121, 121, 121, 121, 121, 121, 121, 121, 121, 121, 121, 121, 121, 121, 121, 121, 121, 121]
def sumV0_8 : PV := kS 69 19 99 162 160 46 75 209 187 96 131 79 28 237 182 82
theorem sumR0_8 : retIs (callN cx blkOrc 1000000 (.fn 135 [.p (.str sumI0_8)]) [] none) (.p sumV0_8) = true := by decide +kernel
def sumI0_9 : List UInt8 := [0, 0, 2, 1, 118, 0, 227, 176, 196, 66, 152, 252, 28, 20, 154, 251, 244, 200, 153, 111, 185, 36, 20, 120, 120, 120, 120, 120, 120, 120, 120, 120, 120, 120, 120, 120, 120, 120, 120, 120, 120, 120, 120, 0, 227, 176, 196, 66, 152, 252, 28, 20, 154, 251, 244, 200, 153, 111, 185, 36]
def sumV0_9 : PV := kS 157 217 236 234 212 63 210 145 170 207 162 183 72 53 57 13
theorem sumR0_9 : retIs (callN cx blkOrc 1000000 (.fn 135 [.p (.str sumI0_9)]) [] none) (.p sumV0_9) = true := by decide +kernel
def sumI0_10 : List UInt8 := [20, 120, 120, 120, 120, 120, 120, 120, 120, 120, 120, 120, 120, 120, 120, 120, 120, 120, 120, 120, 120, 20, 121, 121, 121, 121, 121, 121, 121, 121, 121, 121, 121, 121, 121, 121, 121, 121, 121, 121, 121, 121, 20, 122, 122, 122, 122, 122, 122, 122, 122, 122, 122, 122, 122, 122, 122, 122, 122, 122, 122, 122, 122]
def sumV0_10 : PV := kS 173 172 230 169 65 52 238 116 141 85 172 59 251 18 193 204
theorem sumR0_10 : retIs (callN cx blkOrc 1000000 (.fn 135 [.p (.str sumI0_10)]) [] none) (.p sumV0_10) = true := by decide +kernel
def sumI0_11 : List UInt8 := [0, 0, 4, 1, 118, 0, 227, 176, 196, 66, 152, 252, 28, 20, 154, 251, 244, 200, 153, 111, 185, 36, 20, 120, 120, 120, 120, 120, 120, 120, 120, 120, 120, 120, 120, 120, 120, 120, 120, 120, 120, 120, 120, 0, 227, 176, 196, 66, 152, 252, 28, 20, 154, 251, 244, 200, 153, 111, 185, 36, 20, 121, 121, 121, 121, 121, 121, 121, 121, 121, 121, 121, 121, 121, 121, 121, 121, 121, 121, 121, 121, 0, 227, 176, 196, 66, 152, 252, 28, 20, 154, 251, 244, 200, 153, 111, 185, 36, 20, 122, 122, 122, 122, 122, 122, 122, 122, 122, 122, 122, 122, 122, 122, 122, 122, 122, 122, 122, 122, 0, 227, 176, 196, 66, 152, 252, 28, 20, 154, 251, 244, 200, 153, 111, 185, 36]
def sumV0_11 : PV := kS 66 217 16 202 128 96 173 131 234 1 56 26 44 65 58 154
theorem sumR0_11 : retIs (callN cx blkOrc 1000000 (.fn 135 [.p (.str sumI0_11)]) [] none) (.p sumV0_11) = true := by decide +kernel
end Go.Proofs

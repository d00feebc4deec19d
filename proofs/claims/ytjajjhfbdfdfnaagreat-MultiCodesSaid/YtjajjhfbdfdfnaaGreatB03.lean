/- What is proved: the primes of the digest, by a run of the interpreter in the kernel. Conditions: none. -/
import Derived.Test.YtjajjhfbdfdfnaaGreatB02
set_option linter.all false
set_option linter.unusedVariables false
set_option linter.unusedSimpArgs false
set_option linter.unnecessarySimpa false
set_option linter.deprecated false
namespace Go.Proofs
open Go Go.Ai
set_option maxRecDepth 1000000
def primesV : AV := .p (.agg [.int .u64 (.ofNat 2), .int .u64 (.ofNat 3), .int .u64 (.ofNat 5), .int .u64 (.ofNat 7), .int .u64 (.ofNat 11), .int .u64 (.ofNat 13), .int .u64 (.ofNat 17), .int .u64 (.ofNat 19), .int .u64 (.ofNat 23), .int .u64 (.ofNat 29), .int .u64 (.ofNat 31), .int .u64 (.ofNat 37), .int .u64 (.ofNat 41), .int .u64 (.ofNat 43), .int .u64 (.ofNat 47), .int .u64 (.ofNat 53), .int .u64 (.ofNat 59), .int .u64 (.ofNat 61), .int .u64 (.ofNat 67), .int .u64 (.ofNat 71), .int .u64 (.ofNat 73), .int .u64 (.ofNat 79), .int .u64 (.ofNat 83), .int .u64 (.ofNat 89), .int .u64 (.ofNat 97), .int .u64 (.ofNat 101), .int .u64 (.ofNat 103), .int .u64 (.ofNat 107), .int .u64 (.ofNat 109), .int .u64 (.ofNat 113), .int .u64 (.ofNat 127), .int .u64 (.ofNat 131), .int .u64 (.ofNat 137), .int .u64 (.ofNat 139), .int .u64 (.ofNat 149), .int .u64 (.ofNat 151), .int .u64 (.ofNat 157), .int .u64 (.ofNat 163), .int .u64 (.ofNat 167), .int .u64 (.ofNat 173), .int .u64 (.ofNat 179), .int .u64 (.ofNat 181), .int .u64 (.ofNat 191), .int .u64 (.ofNat 193), .int .u64 (.ofNat 197), .int .u64 (.ofNat 199), .int .u64 (.ofNat 211), .int .u64 (.ofNat 223), .int .u64 (.ofNat 227), .int .u64 (.ofNat 229), .int .u64 (.ofNat 233), .int .u64 (.ofNat 239), .int .u64 (.ofNat 241), .int .u64 (.ofNat 251), .int .u64 (.ofNat 257), .int .u64 (.ofNat 263), .int .u64 (.ofNat 269), .int .u64 (.ofNat 271), .int .u64 (.ofNat 277), .int .u64 (.ofNat 281), .int .u64 (.ofNat 283), .int .u64 (.ofNat 293), .int .u64 (.ofNat 307), .int .u64 (.ofNat 311)])
theorem primes_run : retIs (callN cx insOrc 1000000 (.fn 226 []) [] none) primesV = true := by decide +kernel
end Go.Proofs

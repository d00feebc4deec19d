/- What is proved: roots of the digest's constants, by runs, part 1. Conditions: none. -/
import Derived.Test.YtepjcfcfpjhpgaaGreatDoorPB02
set_option linter.all false
namespace Go.Proofs
open Go Go.Ai
set_option maxRecDepth 1000000
def rootA1:List PV:=[.float .f64 4752468187219325579,.int .u64 (.ofNat 8589934592),.fn 340]
theorem rootR1:retIs (callN cx insOrc 1000000 (.fn 336 (rootA1.map .p)) [] none) (.p (.int .u32 (.ofNat 1116352408)))=true:=by decide +kernel
def rootA5:List PV:=[.float .f64 4754495054284768468,.int .u64 (.ofNat 21474836480),.fn 340]
theorem rootR5:retIs (callN cx insOrc 1000000 (.fn 336 (rootA5.map .p)) [] none) (.p (.int .u32 (.ofNat 3049323471)))=true:=by decide +kernel
def rootA9:List PV:=[.float .f64 4756305564829456966,.int .u64 (.ofNat 47244640256),.fn 340]
theorem rootR9:retIs (callN cx insOrc 1000000 (.fn 336 (rootA9.map .p)) [] none) (.p (.int .u32 (.ofNat 961987163)))=true:=by decide +kernel
def rootA13:List PV:=[.float .f64 4757087618282649802,.int .u64 (.ofNat 73014444032),.fn 340]
theorem rootR13:retIs (callN cx insOrc 1000000 (.fn 336 (rootA13.map .p)) [] none) (.p (.int .u32 (.ofNat 2453635748)))=true:=by decide +kernel
def rootA17:List PV:=[.float .f64 4758215849331534723,.int .u64 (.ofNat 124554051584),.fn 340]
theorem rootR17:retIs (callN cx insOrc 1000000 (.fn 336 (rootA17.map .p)) [] none) (.p (.int .u32 (.ofNat 310598401)))=true:=by decide +kernel
def rootA21:List PV:=[.float .f64 4759186557975517365,.int .u64 (.ofNat 184683593728),.fn 340]
theorem rootR21:retIs (callN cx insOrc 1000000 (.fn 336 (rootA21.map .p)) [] none) (.p (.int .u32 (.ofNat 2162078206)))=true:=by decide +kernel
def rootA25:List PV:=[.float .f64 4760161810499355257,.int .u64 (.ofNat 261993005056),.fn 340]
theorem rootR25:retIs (callN cx insOrc 1000000 (.fn 336 (rootA25.map .p)) [] none) (.p (.int .u32 (.ofNat 4022224774)))=true:=by decide +kernel
def rootA29:List PV:=[.float .f64 4760632263340309148,.int .u64 (.ofNat 339302416384),.fn 340]
theorem rootR29:retIs (callN cx insOrc 1000000 (.fn 336 (rootA29.map .p)) [] none) (.p (.int .u32 (.ofNat 1249150122)))=true:=by decide +kernel
def rootA33:List PV:=[.float .f64 4761044533074245329,.int .u64 (.ofNat 433791696896),.fn 340]
theorem rootR33:retIs (callN cx insOrc 1000000 (.fn 336 (rootA33.map .p)) [] none) (.p (.int .u32 (.ofNat 2821834349)))=true:=by decide +kernel
def rootA37:List PV:=[.float .f64 4761244468825181227,.int .u64 (.ofNat 485331304448),.fn 340]
theorem rootR37:retIs (callN cx insOrc 1000000 (.fn 336 (rootA37.map .p)) [] none) (.p (.int .u32 (.ofNat 3584528711)))=true:=by decide +kernel
def rootA41:List PV:=[.float .f64 4761633482262802587,.int .u64 (.ofNat 597000454144),.fn 340]
theorem rootR41:retIs (callN cx insOrc 1000000 (.fn 336 (rootA41.map .p)) [] none) (.p (.int .u32 (.ofNat 773529912)))=true:=by decide +kernel
def rootA45:List PV:=[.float .f64 4761951497312072159,.int .u64 (.ofNat 700079669248),.fn 340]
theorem rootR45:retIs (callN cx insOrc 1000000 (.fn 336 (rootA45.map .p)) [] none) (.p (.int .u32 (.ofNat 1986661051)))=true:=by decide +kernel
def rootA49:List PV:=[.float .f64 4762170031392878857,.int .u64 (.ofNat 777389080576),.fn 340]
theorem rootR49:retIs (callN cx insOrc 1000000 (.fn 336 (rootA49.map .p)) [] none) (.p (.int .u32 (.ofNat 2820302411)))=true:=by decide +kernel
def rootA53:List PV:=[.float .f64 4762374516922996119,.int .u64 (.ofNat 854698491904),.fn 340]
theorem rootR53:retIs (callN cx insOrc 1000000 (.fn 336 (rootA53.map .p)) [] none) (.p (.int .u32 (.ofNat 3600352804)))=true:=by decide +kernel
def rootA57:List PV:=[.float .f64 4762689499482375431,.int .u64 (.ofNat 983547510784),.fn 340]
theorem rootR57:retIs (callN cx insOrc 1000000 (.fn 336 (rootA57.map .p)) [] none) (.p (.int .u32 (.ofNat 506948616)))=true:=by decide +kernel
def rootA61:List PV:=[.float .f64 4762903375852047622,.int .u64 (.ofNat 1078036791296),.fn 340]
theorem rootR61:retIs (callN cx insOrc 1000000 (.fn 336 (rootA61.map .p)) [] none) (.p (.int .u32 (.ofNat 1322822218)))=true:=by decide +kernel
def rootA65:List PV:=[.float .f64 4763087212876991581,.int .u64 (.ofNat 1163936137216),.fn 340]
theorem rootR65:retIs (callN cx insOrc 1000000 (.fn 336 (rootA65.map .p)) [] none) (.p (.int .u32 (.ofNat 2024104815)))=true:=by decide +kernel
def rootA69:List PV:=[.float .f64 4763279267271244299,.int .u64 (.ofNat 1258425417728),.fn 340]
theorem rootR69:retIs (callN cx insOrc 1000000 (.fn 336 (rootA69.map .p)) [] none) (.p (.int .u32 (.ofNat 2756734187)))=true:=by decide +kernel
end Go.Proofs

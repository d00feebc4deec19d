/- What is proved: roots of the digest's constants, by runs, part 2. Conditions: none. -/
import Derived.Test.YtepjcfcfpjhpgaaGreatDoorPB02
set_option linter.all false
namespace Go.Proofs
open Go Go.Ai
set_option maxRecDepth 1000000
def rootA2:List PV:=[.float .f64 4754594470620056746,.int .u64 (.ofNat 3),.fn 338]
theorem rootR2:retIs (callN cx insOrc 1000000 (.fn 336 (rootA2.map .p)) [] none) (.p (.int .u32 (.ofNat 3144134277)))=true:=by decide +kernel
def rootA6:List PV:=[.float .f64 4757255309185186026,.int .u64 (.ofNat 7),.fn 338]
theorem rootR6:retIs (callN cx insOrc 1000000 (.fn 336 (rootA6.map .p)) [] none) (.p (.int .u32 (.ofNat 2773480762)))=true:=by decide +kernel
def rootA10:List PV:=[.float .f64 4759416586566195699,.int .u64 (.ofNat 13),.fn 338]
theorem rootR10:retIs (callN cx insOrc 1000000 (.fn 336 (rootA10.map .p)) [] none) (.p (.int .u32 (.ofNat 2600822924)))=true:=by decide +kernel
def rootA14:List PV:=[.float .f64 4760708890417712633,.int .u64 (.ofNat 19),.fn 338]
theorem rootR14:retIs (callN cx insOrc 1000000 (.fn 336 (rootA14.map .p)) [] none) (.p (.int .u32 (.ofNat 1541459225)))=true:=by decide +kernel
def rootA18:List PV:=[.float .f64 4758371367243642662,.int .u64 (.ofNat 133143986176),.fn 340]
theorem rootR18:retIs (callN cx insOrc 1000000 (.fn 336 (rootA18.map .p)) [] none) (.p (.int .u32 (.ofNat 607225278)))=true:=by decide +kernel
def rootA22:List PV:=[.float .f64 4759423960770752057,.int .u64 (.ofNat 201863462912),.fn 340]
theorem rootR22:retIs (callN cx insOrc 1000000 (.fn 336 (rootA22.map .p)) [] none) (.p (.int .u32 (.ofNat 2614888103)))=true:=by decide +kernel
def rootA26:List PV:=[.float .f64 4760374103131172403,.int .u64 (.ofNat 287762808832),.fn 340]
theorem rootR26:retIs (callN cx insOrc 1000000 (.fn 336 (rootA26.map .p)) [] none) (.p (.int .u32 (.ofNat 264347078)))=true:=by decide +kernel
def rootA30:List PV:=[.float .f64 4760712461465875720,.int .u64 (.ofNat 356482285568),.fn 340]
theorem rootR30:retIs (callN cx insOrc 1000000 (.fn 336 (rootA30.map .p)) [] none) (.p (.int .u32 (.ofNat 1555081692)))=true:=by decide +kernel
def rootA34:List PV:=[.float .f64 4761078916526007276,.int .u64 (.ofNat 442381631488),.fn 340]
theorem rootR34:retIs (callN cx insOrc 1000000 (.fn 336 (rootA34.map .p)) [] none) (.p (.int .u32 (.ofNat 2952996808)))=true:=by decide +kernel
def rootA38:List PV:=[.float .f64 4761460571315339278,.int .u64 (.ofNat 545460846592),.fn 340]
theorem rootR38:retIs (callN cx insOrc 1000000 (.fn 336 (rootA38.map .p)) [] none) (.p (.int .u32 (.ofNat 113926993)))=true:=by decide +kernel
def rootA42:List PV:=[.float .f64 4761770118914075409,.int .u64 (.ofNat 639950127104),.fn 340]
theorem rootR42:retIs (callN cx insOrc 1000000 (.fn 336 (rootA42.map .p)) [] none) (.p (.int .u32 (.ofNat 1294757372)))=true:=by decide +kernel
def rootA46:List PV:=[.float .f64 4762001400433024951,.int .u64 (.ofNat 717259538432),.fn 340]
theorem rootR46:retIs (callN cx insOrc 1000000 (.fn 336 (rootA46.map .p)) [] none) (.p (.int .u32 (.ofNat 2177026350)))=true:=by decide +kernel
def rootA50:List PV:=[.float .f64 4762285224908506082,.int .u64 (.ofNat 820338753536),.fn 340]
theorem rootR50:retIs (callN cx insOrc 1000000 (.fn 336 (rootA50.map .p)) [] none) (.p (.int .u32 (.ofNat 3259730800)))=true:=by decide +kernel
def rootA54:List PV:=[.float .f64 4762504073496059333,.int .u64 (.ofNat 906238099456),.fn 340]
theorem rootR54:retIs (callN cx insOrc 1000000 (.fn 336 (rootA54.map .p)) [] none) (.p (.int .u32 (.ofNat 4094571909)))=true:=by decide +kernel
def rootA58:List PV:=[.float .f64 4762729374714920508,.int .u64 (.ofNat 1000727379968),.fn 340]
theorem rootR58:retIs (callN cx insOrc 1000000 (.fn 336 (rootA58.map .p)) [] none) (.p (.int .u32 (.ofNat 659060556)))=true:=by decide +kernel
def rootA62:List PV:=[.float .f64 4762959521813224848,.int .u64 (.ofNat 1103806595072),.fn 340]
theorem rootR62:retIs (callN cx insOrc 1000000 (.fn 336 (rootA62.map .p)) [] none) (.p (.int .u32 (.ofNat 1537002063)))=true:=by decide +kernel
def rootA66:List PV:=[.float .f64 4763140592116074435,.int .u64 (.ofNat 1189705940992),.fn 340]
theorem rootR66:retIs (callN cx insOrc 1000000 (.fn 336 (rootA66.map .p)) [] none) (.p (.int .u32 (.ofNat 2227730452)))=true:=by decide +kernel
def rootA70:List PV:=[.float .f64 4763396523572513562,.int .u64 (.ofNat 1318554959872),.fn 340]
theorem rootR70:retIs (callN cx insOrc 1000000 (.fn 336 (rootA70.map .p)) [] none) (.p (.int .u32 (.ofNat 3204031479)))=true:=by decide +kernel
end Go.Proofs

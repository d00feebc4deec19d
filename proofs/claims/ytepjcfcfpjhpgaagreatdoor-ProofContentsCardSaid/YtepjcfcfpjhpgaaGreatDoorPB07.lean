/- What is proved: roots of the digest's constants, by runs, part 3. Conditions: none. -/
import Derived.Test.YtepjcfcfpjhpgaaGreatDoorPB02
set_option linter.all false
namespace Go.Proofs
open Go Go.Ai
set_option maxRecDepth 1000000
def rootA3:List PV:=[.float .f64 4753289321875914486,.int .u64 (.ofNat 12884901888),.fn 340]
theorem rootR3:retIs (callN cx insOrc 1000000 (.fn 336 (rootA3.map .p)) [] none) (.p (.int .u32 (.ofNat 1899447441)))=true:=by decide +kernel
def rootA7:List PV:=[.float .f64 4755409083410421918,.int .u64 (.ofNat 30064771072),.fn 340]
theorem rootR7:retIs (callN cx insOrc 1000000 (.fn 336 (rootA7.map .p)) [] none) (.p (.int .u32 (.ofNat 3921009573)))=true:=by decide +kernel
def rootA11:List PV:=[.float .f64 4756592341887594543,.int .u64 (.ofNat 55834574848),.fn 340]
theorem rootR11:retIs (callN cx insOrc 1000000 (.fn 336 (rootA11.map .p)) [] none) (.p (.int .u32 (.ofNat 1508970993)))=true:=by decide +kernel
def rootA15:List PV:=[.float .f64 4757306313211302764,.int .u64 (.ofNat 81604378624),.fn 340]
theorem rootR15:retIs (callN cx insOrc 1000000 (.fn 336 (rootA15.map .p)) [] none) (.p (.int .u32 (.ofNat 2870763221)))=true:=by decide +kernel
def rootA19:List PV:=[.float .f64 4758801103420567550,.int .u64 (.ofNat 158913789952),.fn 340]
theorem rootR19:retIs (callN cx insOrc 1000000 (.fn 336 (rootA19.map .p)) [] none) (.p (.int .u32 (.ofNat 1426881987)))=true:=by decide +kernel
def rootA23:List PV:=[.float .f64 4759756010437376841,.int .u64 (.ofNat 227633266688),.fn 340]
theorem rootR23:retIs (callN cx insOrc 1000000 (.fn 336 (rootA23.map .p)) [] none) (.p (.int .u32 (.ofNat 3248222580)))=true:=by decide +kernel
def rootA27:List PV:=[.float .f64 4760463352821571251,.int .u64 (.ofNat 304942678016),.fn 340]
theorem rootR27:retIs (callN cx insOrc 1000000 (.fn 336 (rootA27.map .p)) [] none) (.p (.int .u32 (.ofNat 604807628)))=true:=by decide +kernel
def rootA31:List PV:=[.float .f64 4760828062590438469,.int .u64 (.ofNat 382252089344),.fn 340]
theorem rootR31:retIs (callN cx insOrc 1000000 (.fn 336 (rootA31.map .p)) [] none) (.p (.int .u32 (.ofNat 1996064986)))=true:=by decide +kernel
def rootA35:List PV:=[.float .f64 4761146370597780412,.int .u64 (.ofNat 459561500672),.fn 340]
theorem rootR35:retIs (callN cx insOrc 1000000 (.fn 336 (rootA35.map .p)) [] none) (.p (.int .u32 (.ofNat 3210313671)))=true:=by decide +kernel
def rootA39:List PV:=[.float .f64 4761519374120790074,.int .u64 (.ofNat 562640715776),.fn 340]
theorem rootR39:retIs (callN cx insOrc 1000000 (.fn 336 (rootA39.map .p)) [] none) (.p (.int .u32 (.ofNat 338241895)))=true:=by decide +kernel
def rootA43:List PV:=[.float .f64 4761796706848110167,.int .u64 (.ofNat 648540061696),.fn 340]
theorem rootR43:retIs (callN cx insOrc 1000000 (.fn 336 (rootA43.map .p)) [] none) (.p (.int .u32 (.ofNat 1396182291)))=true:=by decide +kernel
def rootA47:List PV:=[.float .f64 4762074782320841225,.int .u64 (.ofNat 743029342208),.fn 340]
theorem rootR47:retIs (callN cx insOrc 1000000 (.fn 336 (rootA47.map .p)) [] none) (.p (.int .u32 (.ofNat 2456956037)))=true:=by decide +kernel
def rootA51:List PV:=[.float .f64 4762307778197592403,.int .u64 (.ofNat 828928688128),.fn 340]
theorem rootR51:retIs (callN cx insOrc 1000000 (.fn 336 (rootA51.map .p)) [] none) (.p (.int .u32 (.ofNat 3345764771)))=true:=by decide +kernel
def rootA55:List PV:=[.float .f64 4762628806521441007,.int .u64 (.ofNat 957777707008),.fn 340]
theorem rootR55:retIs (callN cx insOrc 1000000 (.fn 336 (rootA55.map .p)) [] none) (.p (.int .u32 (.ofNat 275423344)))=true:=by decide +kernel
def rootA59:List PV:=[.float .f64 4762788340683998829,.int .u64 (.ofNat 1026497183744),.fn 340]
theorem rootR59:retIs (callN cx insOrc 1000000 (.fn 336 (rootA59.map .p)) [] none) (.p (.int .u32 (.ofNat 883997877)))=true:=by decide +kernel
def rootA63:List PV:=[.float .f64 4763014800568441547,.int .u64 (.ofNat 1129576398848),.fn 340]
theorem rootR63:retIs (callN cx insOrc 1000000 (.fn 336 (rootA63.map .p)) [] none) (.p (.int .u32 (.ofNat 1747873779)))=true:=by decide +kernel
def rootA67:List PV:=[.float .f64 4763175751386163601,.int .u64 (.ofNat 1206885810176),.fn 340]
theorem rootR67:retIs (callN cx insOrc 1000000 (.fn 336 (rootA67.map .p)) [] none) (.p (.int .u32 (.ofNat 2361852424)))=true:=by decide +kernel
def rootA71:List PV:=[.float .f64 4763429368595451337,.int .u64 (.ofNat 1335734829056),.fn 340]
theorem rootR71:retIs (callN cx insOrc 1000000 (.fn 336 (rootA71.map .p)) [] none) (.p (.int .u32 (.ofNat 3329325298)))=true:=by decide +kernel
end Go.Proofs

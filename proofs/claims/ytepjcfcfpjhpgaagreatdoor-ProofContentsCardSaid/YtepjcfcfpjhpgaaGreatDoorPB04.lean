/- What is proved: roots of the digest's constants, by runs, part 0. Conditions: none. -/
import Derived.Test.YtepjcfcfpjhpgaaGreatDoorPB02
set_option linter.all false
namespace Go.Proofs
open Go Go.Ai
set_option maxRecDepth 1000000
def rootA0:List PV:=[.float .f64 4753163058921028557,.int .u64 (.ofNat 2),.fn 338]
theorem rootR0:retIs (callN cx insOrc 1000000 (.fn 336 (rootA0.map .p)) [] none) (.p (.int .u32 (.ofNat 1779033703)))=true:=by decide +kernel
def rootA4:List PV:=[.float .f64 4756332784330994856,.int .u64 (.ofNat 5),.fn 338]
theorem rootR4:retIs (callN cx insOrc 1000000 (.fn 336 (rootA4.map .p)) [] none) (.p (.int .u32 (.ofNat 1013904242)))=true:=by decide +kernel
def rootA8:List PV:=[.float .f64 4758765981960859444,.int .u64 (.ofNat 11),.fn 338]
theorem rootR8:retIs (callN cx insOrc 1000000 (.fn 336 (rootA8.map .p)) [] none) (.p (.int .u32 (.ofNat 1359893119)))=true:=by decide +kernel
def rootA12:List PV:=[.float .f64 4760443410743028999,.int .u64 (.ofNat 17),.fn 338]
theorem rootR12:retIs (callN cx insOrc 1000000 (.fn 336 (rootA12.map .p)) [] none) (.p (.int .u32 (.ofNat 528734635)))=true:=by decide +kernel
def rootA16:List PV:=[.float .f64 4757701426011248664,.int .u64 (.ofNat 98784247808),.fn 340]
theorem rootR16:retIs (callN cx insOrc 1000000 (.fn 336 (rootA16.map .p)) [] none) (.p (.int .u32 (.ofNat 3624381080)))=true:=by decide +kernel
def rootA20:List PV:=[.float .f64 4759062301815313372,.int .u64 (.ofNat 176093659136),.fn 340]
theorem rootR20:retIs (callN cx insOrc 1000000 (.fn 336 (rootA20.map .p)) [] none) (.p (.int .u32 (.ofNat 1925078388)))=true:=by decide +kernel
def rootA24:List PV:=[.float .f64 4760063855479814026,.int .u64 (.ofNat 253403070464),.fn 340]
theorem rootR24:retIs (callN cx insOrc 1000000 (.fn 336 (rootA24.map .p)) [] none) (.p (.int .u32 (.ofNat 3835390401)))=true:=by decide +kernel
def rootA28:List PV:=[.float .f64 4760506724115113132,.int .u64 (.ofNat 313532612608),.fn 340]
theorem rootR28:retIs (callN cx insOrc 1000000 (.fn 336 (rootA28.map .p)) [] none) (.p (.int .u32 (.ofNat 770255983)))=true:=by decide +kernel
def rootA32:List PV:=[.float .f64 4760974379809749403,.int .u64 (.ofNat 416611827712),.fn 340]
theorem rootR32:retIs (callN cx insOrc 1000000 (.fn 336 (rootA32.map .p)) [] none) (.p (.int .u32 (.ofNat 2554220882)))=true:=by decide +kernel
def rootA36:List PV:=[.float .f64 4761179468432471714,.int .u64 (.ofNat 468151435264),.fn 340]
theorem rootR36:retIs (callN cx insOrc 1000000 (.fn 336 (rootA36.map .p)) [] none) (.p (.int .u32 (.ofNat 3336571891)))=true:=by decide +kernel
def rootA40:List PV:=[.float .f64 4761605374473476937,.int .u64 (.ofNat 588410519552),.fn 340]
theorem rootR40:retIs (callN cx insOrc 1000000 (.fn 336 (rootA40.map .p)) [] none) (.p (.int .u32 (.ofNat 666307205)))=true:=by decide +kernel
def rootA44:List PV:=[.float .f64 4761875088273452734,.int .u64 (.ofNat 674309865472),.fn 340]
theorem rootR44:retIs (callN cx insOrc 1000000 (.fn 336 (rootA44.map .p)) [] none) (.p (.int .u32 (.ofNat 1695183700)))=true:=by decide +kernel
def rootA48:List PV:=[.float .f64 4762146486538810308,.int .u64 (.ofNat 768799145984),.fn 340]
theorem rootR48:retIs (callN cx insOrc 1000000 (.fn 336 (rootA48.map .p)) [] none) (.p (.int .u32 (.ofNat 2730485921)))=true:=by decide +kernel
def rootA52:List PV:=[.float .f64 4762352421595208637,.int .u64 (.ofNat 846108557312),.fn 340]
theorem rootR52:retIs (callN cx insOrc 1000000 (.fn 336 (rootA52.map .p)) [] none) (.p (.int .u32 (.ofNat 3516065817)))=true:=by decide +kernel
def rootA56:List PV:=[.float .f64 4762669387563590475,.int .u64 (.ofNat 974957576192),.fn 340]
theorem rootR56:retIs (callN cx insOrc 1000000 (.fn 336 (rootA56.map .p)) [] none) (.p (.int .u32 (.ofNat 430227734)))=true:=by decide +kernel
def rootA60:List PV:=[.float .f64 4762807776484202277,.int .u64 (.ofNat 1035087118336),.fn 340]
theorem rootR60:retIs (callN cx insOrc 1000000 (.fn 336 (rootA60.map .p)) [] none) (.p (.int .u32 (.ofNat 958139571)))=true:=by decide +kernel
def rootA64:List PV:=[.float .f64 4763069244847519679,.int .u64 (.ofNat 1155346202624),.fn 340]
theorem rootR64:retIs (callN cx insOrc 1000000 (.fn 336 (rootA64.map .p)) [] none) (.p (.int .u32 (.ofNat 1955562222)))=true:=by decide +kernel
def rootA68:List PV:=[.float .f64 4763193205995376013,.int .u64 (.ofNat 1215475744768),.fn 340]
theorem rootR68:retIs (callN cx insOrc 1000000 (.fn 336 (rootA68.map .p)) [] none) (.p (.int .u32 (.ofNat 2428436474)))=true:=by decide +kernel
end Go.Proofs

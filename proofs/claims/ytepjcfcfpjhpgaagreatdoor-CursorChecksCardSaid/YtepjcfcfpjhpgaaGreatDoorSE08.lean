/- What is proved: a block of the specification's digest, by a run, part 6. Conditions: none. -/
import Derived.Test.YtepjcfcfpjhpgaaGreatDoorSE01
import Derived.Test.YtepjcfcfpjhpgaaGreatDoorSA10
set_option linter.all false
namespace Go.Proofs
open Go Go.Ai
set_option maxRecDepth 1000000
def KBlA6:List AV:=[.p (.agg [kW 230705799,kW 381677035,kW 904646485,kW 2841823054,kW 1881532926,kW 3503201640,kW 1553756889,kW 3477161386]),.p (.str [0,0,0,0,0,0,0,0,0,0,0,0,0,0,0,0,0,0,0,0,0,0,0,0,0,0,0,0,0,0,0,0,0,0,0,0,0,0,0,0,0,0,0,0,0,0,0,0,0,0,0,0,0,0,0,0,0,0,0,0,0,0,1,224])]
def KBlH6:List Ob:=[]
def KBlV6:AV:=.p (.agg [kW 785230532,kW 4062358591,kW 2344218926,kW 3174114416,kW 2272463684,kW 3117746924,kW 2527449835,kW 1271039358])
def KBlW6:List Ob:=[.cells 291 [.p (kW 785230532),.p (kW 4062358591),.p (kW 2344218926),.p (kW 3174114416),.p (kW 2272463684),.p (kW 3117746924),.p (kW 2527449835),.p (kW 1271039358)],.cells 291 [.p (kW 785230532),.p (kW 4062358591),.p (kW 2344218926),.p (kW 3174114416),.p (kW 2272463684),.p (kW 3117746924),.p (kW 2527449835),.p (kW 1271039358)],.cells 384 [.p (kW 0),.p (kW 0),.p (kW 0),.p (kW 0),.p (kW 0),.p (kW 0),.p (kW 0),.p (kW 0),.p (kW 0),.p (kW 0),.p (kW 0),.p (kW 0),.p (kW 0),.p (kW 0),.p (kW 0),.p (kW 480),.p (kW 0),.p (kW 13369344),.p (kW 0),.p (kW 2147496831),.p (kW 0),.p (kW 535834636),.p (kW 480),.p (kW 503345162),.p (kW 26738688),.p (kW 906218716),.p (kW 2147523198),.p (kW 2683837746),.p (kW 2118172722),.p (kW 219735012),.p (kW 1450791201),.p (kW 1864745719),.p (kW 3099395254),.p (kW 3658165636),.p (kW 2797315907),.p (kW 4052052032),.p (kW 3426471652),.p (kW 1341491476),.p (kW 432160673),.p (kW 1286142092),.p (kW 2170650716),.p (kW 195275929),.p (kW 3541557276),.p (kW 1799962234),.p (kW 3417288276),.p (kW 4226767647),.p (kW 1501268232),.p (kW 1923461471),.p (kW 1403547688),.p (kW 2517038610),.p (kW 231623475),.p (kW 2261380193),.p (kW 4165732508),.p (kW 1139923421),.p (kW 1090207479),.p (kW 1095840247),.p (kW 3898826045),.p (kW 3020618656),.p (kW 3573960136),.p (kW 3784715725),.p (kW 4116153615),.p (kW 171004917),.p (kW 2848861887),.p (kW 627572917)],.cells 291 [.p (kW 554524733),.p (kW 3680681556),.p (kW 1439572441),.p (kW 332291362),.p (kW 390930758),.p (kW 3909512580),.p (kW 973692946),.p (kW 2088845268)]]
theorem KBlR6:endIs (callN cx sumOrc 1000000 (.fn 257 KBlA6) KBlH6 none) KBlV6 KBlW6=true:=by decide +kernel
end Go.Proofs

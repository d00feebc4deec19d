/- What is proved: a block of the specification's digest, by a run, part 4. Conditions: none. -/
import Derived.Test.YtepjcfcfpjhpgaaGreatDoorSE01
import Derived.Test.YtepjcfcfpjhpgaaGreatDoorSA10
set_option linter.all false
namespace Go.Proofs
open Go Go.Ai
set_option maxRecDepth 1000000
def KBlA4:List AV:=[.p (.agg [kW 1779033703,kW 3144134277,kW 1013904242,kW 2773480762,kW 1359893119,kW 2600822924,kW 528734635,kW 1541459225]),.p (.str [52,128,0,0,0,0,0,0,0,0,0,0,0,0,0,0,0,0,0,0,0,0,0,0,0,0,0,0,0,0,0,0,0,0,0,0,0,0,0,0,0,0,0,0,0,0,0,0,0,0,0,0,0,0,0,0,0,0,0,0,0,0,0,8])]
def KBlH4:List Ob:=[]
def KBlV4:AV:=.p (.agg [kW 1260550007,kW 3571261382,kW 477071439,kW 1214520578,kW 3033604563,kW 4247948464,kW 2337616380,kW 2900017034])
def KBlW4:List Ob:=[.cells 291 [.p (kW 1260550007),.p (kW 3571261382),.p (kW 477071439),.p (kW 1214520578),.p (kW 3033604563),.p (kW 4247948464),.p (kW 2337616380),.p (kW 2900017034)],.cells 291 [.p (kW 1260550007),.p (kW 3571261382),.p (kW 477071439),.p (kW 1214520578),.p (kW 3033604563),.p (kW 4247948464),.p (kW 2337616380),.p (kW 2900017034)],.cells 384 [.p (kW 880803840),.p (kW 0),.p (kW 0),.p (kW 0),.p (kW 0),.p (kW 0),.p (kW 0),.p (kW 0),.p (kW 0),.p (kW 0),.p (kW 0),.p (kW 0),.p (kW 0),.p (kW 0),.p (kW 0),.p (kW 8),.p (kW 880803840),.p (kW 327680),.p (kW 867536),.p (kW 536871234),.p (kW 972161864),.p (kW 8475648),.p (kW 1103325007),.p (kW 3036684293),.p (kW 3747821568),.p (kW 339503352),.p (kW 456633813),.p (kW 4082633419),.p (kW 601372438),.p (kW 1170454804),.p (kW 3798156192),.p (kW 2450923487),.p (kW 1381632166),.p (kW 3601017475),.p (kW 3100198313),.p (kW 1268521914),.p (kW 1595325840),.p (kW 3238354354),.p (kW 1930613236),.p (kW 3775674696),.p (kW 3513829027),.p (kW 2866854518),.p (kW 1841620432),.p (kW 3267837655),.p (kW 2711470155),.p (kW 3199781479),.p (kW 1174752182),.p (kW 2761805518),.p (kW 3788571737),.p (kW 3087173133),.p (kW 2570741434),.p (kW 2237412529),.p (kW 3360287334),.p (kW 4143165897),.p (kW 1672476465),.p (kW 3722560497),.p (kW 1701724049),.p (kW 2984500332),.p (kW 1135442220),.p (kW 336284517),.p (kW 2523413639),.p (kW 635772494),.p (kW 944168704),.p (kW 635680863)],.cells 291 [.p (kW 3776483600),.p (kW 427127105),.p (kW 3758134493),.p (kW 2736007112),.p (kW 1673711444),.p (kW 1647125540),.p (kW 1808881745),.p (kW 1358557809)]]
theorem KBlR4:endIs (callN cx sumOrc 1000000 (.fn 257 KBlA4) KBlH4 none) KBlV4 KBlW4=true:=by decide +kernel
end Go.Proofs

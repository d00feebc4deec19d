/- What is proved: a block of the specification's digest, by a run, part 2. Conditions: none. -/
import Derived.Test.YtepjcfcfpjhpgaaGreatDoorSE01
import Derived.Test.YtepjcfcfpjhpgaaGreatDoorSA10
set_option linter.all false
namespace Go.Proofs
open Go Go.Ai
set_option maxRecDepth 1000000
def KBlA2:List AV:=[.p (.agg [kW 1779033703,kW 3144134277,kW 1013904242,kW 2773480762,kW 1359893119,kW 2600822924,kW 528734635,kW 1541459225]),.p (.str [50,128,0,0,0,0,0,0,0,0,0,0,0,0,0,0,0,0,0,0,0,0,0,0,0,0,0,0,0,0,0,0,0,0,0,0,0,0,0,0,0,0,0,0,0,0,0,0,0,0,0,0,0,0,0,0,0,0,0,0,0,0,0,8])]
def KBlH2:List Ob:=[]
def KBlV2:AV:=.p (.agg [kW 3564330554,kW 643700462,kW 3762248049,kW 2342214915,kW 27002840,kW 3066371984,kW 3661260398,kW 3960711989])
def KBlW2:List Ob:=[.cells 291 [.p (kW 3564330554),.p (kW 643700462),.p (kW 3762248049),.p (kW 2342214915),.p (kW 27002840),.p (kW 3066371984),.p (kW 3661260398),.p (kW 3960711989)],.cells 291 [.p (kW 3564330554),.p (kW 643700462),.p (kW 3762248049),.p (kW 2342214915),.p (kW 27002840),.p (kW 3066371984),.p (kW 3661260398),.p (kW 3960711989)],.cells 384 [.p (kW 847249408),.p (kW 0),.p (kW 0),.p (kW 0),.p (kW 0),.p (kW 0),.p (kW 0),.p (kW 0),.p (kW 0),.p (kW 0),.p (kW 0),.p (kW 0),.p (kW 0),.p (kW 0),.p (kW 0),.p (kW 8),.p (kW 847249408),.p (kW 327680),.p (kW 835344),.p (kW 536871234),.p (kW 3362390824),.p (kW 8475648),.p (kW 1103325120),.p (kW 3003129861),.p (kW 3742193664),.p (kW 339439352),.p (kW 657963123),.p (kW 2735737193),.p (kW 733974163),.p (kW 1198819752),.p (kW 4187176785),.p (kW 3140705054),.p (kW 2134425645),.p (kW 4257516859),.p (kW 2604281582),.p (kW 3944556231),.p (kW 3078358345),.p (kW 2195873084),.p (kW 2485018030),.p (kW 3820081247),.p (kW 3945439842),.p (kW 2387005811),.p (kW 3709537165),.p (kW 3452205617),.p (kW 221014454),.p (kW 18208138),.p (kW 2483764978),.p (kW 1541683624),.p (kW 1359975351),.p (kW 3166834582),.p (kW 2143030963),.p (kW 3274923891),.p (kW 1027131810),.p (kW 3021292383),.p (kW 1167282086),.p (kW 2933279152),.p (kW 3098277053),.p (kW 3200448361),.p (kW 2313494912),.p (kW 2823156357),.p (kW 1465248506),.p (kW 3321326119),.p (kW 3770324635),.p (kW 3982806806)],.cells 291 [.p (kW 1785296851),.p (kW 1794533481),.p (kW 2748343807),.p (kW 3863701449),.p (kW 2962077017),.p (kW 465549060),.p (kW 3132525763),.p (kW 2419252764)]]
theorem KBlR2:endIs (callN cx sumOrc 1000000 (.fn 257 KBlA2) KBlH2 none) KBlV2 KBlW2=true:=by decide +kernel
end Go.Proofs

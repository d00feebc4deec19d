/- What is proved: a block of the specification's digest, by a run, part 1. Conditions: none. -/
import Derived.Test.YtepjcfcfpjhpgaaGreatDoorSE01
import Derived.Test.YtepjcfcfpjhpgaaGreatDoorSA10
set_option linter.all false
namespace Go.Proofs
open Go Go.Ai
set_option maxRecDepth 1000000
def KBlA1:List AV:=[.p (.agg [kW 1779033703,kW 3144134277,kW 1013904242,kW 2773480762,kW 1359893119,kW 2600822924,kW 528734635,kW 1541459225]),.p (.str [0,0,1,1,97,0,107,134,178,115,255,52,252,225,157,107,128,78,255,90,63,87,128,0,0,0,0,0,0,0,0,0,0,0,0,0,0,0,0,0,0,0,0,0,0,0,0,0,0,0,0,0,0,0,0,0,0,0,0,0,0,0,0,176])]
def KBlH1:List Ob:=[]
def KBlV1:AV:=.p (.agg [kW 3581939559,kW 3565908464,kW 3504556103,kW 1651266536,kW 3693760991,kW 2336218735,kW 124952137,kW 3117030739])
def KBlW1:List Ob:=[.cells 291 [.p (kW 3581939559),.p (kW 3565908464),.p (kW 3504556103),.p (kW 1651266536),.p (kW 3693760991),.p (kW 2336218735),.p (kW 124952137),.p (kW 3117030739)],.cells 291 [.p (kW 3581939559),.p (kW 3565908464),.p (kW 3504556103),.p (kW 1651266536),.p (kW 3693760991),.p (kW 2336218735),.p (kW 124952137),.p (kW 3117030739)],.cells 384 [.p (kW 257),.p (kW 1627417478),.p (kW 2993946420),.p (kW 4242644331),.p (kW 2152660826),.p (kW 1062699008),.p (kW 0),.p (kW 0),.p (kW 0),.p (kW 0),.p (kW 0),.p (kW 0),.p (kW 0),.p (kW 0),.p (kW 0),.p (kW 176),.p (kW 436442856),.p (kW 3795197962),.p (kW 459447687),.p (kW 3959300166),.p (kW 2237204137),.p (kW 325637896),.p (kW 2745214198),.p (kW 2338678996),.p (kW 688098711),.p (kW 884255499),.p (kW 2742112648),.p (kW 1178785935),.p (kW 2521198730),.p (kW 3672670293),.p (kW 3791843682),.p (kW 2951278016),.p (kW 4141744316),.p (kW 2606135831),.p (kW 986925825),.p (kW 1992323005),.p (kW 1421436276),.p (kW 4289686348),.p (kW 3554305626),.p (kW 2739614321),.p (kW 2120875479),.p (kW 3224440154),.p (kW 2078776059),.p (kW 3724106177),.p (kW 1697627887),.p (kW 2626647314),.p (kW 1574183241),.p (kW 1769499459),.p (kW 4001596369),.p (kW 671161821),.p (kW 978378699),.p (kW 1152559933),.p (kW 3258242351),.p (kW 2494955499),.p (kW 1762197246),.p (kW 2957017040),.p (kW 4126591755),.p (kW 1240870383),.p (kW 1273556772),.p (kW 2975519017),.p (kW 1345744119),.p (kW 3381241696),.p (kW 2603817087),.p (kW 2782290631)],.cells 291 [.p (kW 1802905856),.p (kW 421774187),.p (kW 2490651861),.p (kW 3172753070),.p (kW 2333867872),.p (kW 4030363107),.p (kW 3891184798),.p (kW 1575571514)]]
theorem KBlR1:endIs (callN cx sumOrc 1000000 (.fn 257 KBlA1) KBlH1 none) KBlV1 KBlW1=true:=by decide +kernel
end Go.Proofs

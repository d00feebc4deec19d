/- What is proved: a block of the specification's digest, by a run, part 0. Conditions: none. -/
import Derived.Test.YtepjcfcfpjhpgaaGreatDoorSE01
import Derived.Test.YtepjcfcfpjhpgaaGreatDoorSA10
set_option linter.all false
namespace Go.Proofs
open Go Go.Ai
set_option maxRecDepth 1000000
def KBlA0:List AV:=[.p (.agg [kW 1779033703,kW 3144134277,kW 1013904242,kW 2773480762,kW 1359893119,kW 2600822924,kW 528734635,kW 1541459225]),.p (.str [49,128,0,0,0,0,0,0,0,0,0,0,0,0,0,0,0,0,0,0,0,0,0,0,0,0,0,0,0,0,0,0,0,0,0,0,0,0,0,0,0,0,0,0,0,0,0,0,0,0,0,0,0,0,0,0,0,0,0,0,0,0,0,8])]
def KBlH0:List Ob:=[]
def KBlV0:AV:=.p (.agg [kW 1803989619,kW 4281662689,kW 2641068110,kW 4284104535,kW 1202562282,kW 2720996681,kW 3223212765,kW 3079101259])
def KBlW0:List Ob:=[.cells 291 [.p (kW 1803989619),.p (kW 4281662689),.p (kW 2641068110),.p (kW 4284104535),.p (kW 1202562282),.p (kW 2720996681),.p (kW 3223212765),.p (kW 3079101259)],.cells 291 [.p (kW 1803989619),.p (kW 4281662689),.p (kW 2641068110),.p (kW 4284104535),.p (kW 1202562282),.p (kW 2720996681),.p (kW 3223212765),.p (kW 3079101259)],.cells 384 [.p (kW 830472192),.p (kW 0),.p (kW 0),.p (kW 0),.p (kW 0),.p (kW 0),.p (kW 0),.p (kW 0),.p (kW 0),.p (kW 0),.p (kW 0),.p (kW 0),.p (kW 0),.p (kW 0),.p (kW 0),.p (kW 8),.p (kW 830472192),.p (kW 327680),.p (kW 818928),.p (kW 536871234),.p (kW 2963669784),.p (kW 8475648),.p (kW 3250808783),.p (kW 2986352645),.p (kW 3744688128),.p (kW 339439160),.p (kW 4181178855),.p (kW 2340686169),.p (kW 745710163),.p (kW 1198030207),.p (kW 3345682213),.p (kW 378013102),.p (kW 1812175316),.p (kW 4217486491),.p (kW 3412904922),.p (kW 3724975764),.p (kW 1237618824),.p (kW 3269718735),.p (kW 3350737723),.p (kW 1701484486),.p (kW 2743187415),.p (kW 928531665),.p (kW 1688865328),.p (kW 193625929),.p (kW 484030451),.p (kW 270187781),.p (kW 2037258145),.p (kW 106780975),.p (kW 3025318134),.p (kW 97365429),.p (kW 2065288352),.p (kW 2614538492),.p (kW 3039071021),.p (kW 776977820),.p (kW 3364474891),.p (kW 435562290),.p (kW 825760370),.p (kW 2025541685),.p (kW 464512478),.p (kW 185567931),.p (kW 14533062),.p (kW 3571709076),.p (kW 4107077080),.p (kW 342006300)],.cells 291 [.p (kW 24955916),.p (kW 1137528412),.p (kW 1627163868),.p (kW 1510623773),.p (kW 4137636459),.p (kW 120173757),.p (kW 2694478130),.p (kW 1537642034)]]
theorem KBlR0:endIs (callN cx sumOrc 1000000 (.fn 257 KBlA0) KBlH0 none) KBlV0 KBlW0=true:=by decide +kernel
end Go.Proofs

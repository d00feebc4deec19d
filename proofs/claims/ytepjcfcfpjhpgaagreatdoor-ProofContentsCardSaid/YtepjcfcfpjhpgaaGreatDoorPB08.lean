/- What is proved: the constants of the digest. Conditions: none. -/
import Derived.Test.YtepjcfcfpjhpgaaGreatDoorPB03
import Derived.Test.YtepjcfcfpjhpgaaGreatDoorPB04
import Derived.Test.YtepjcfcfpjhpgaaGreatDoorPB05
import Derived.Test.YtepjcfcfpjhpgaaGreatDoorPB06
import Derived.Test.YtepjcfcfpjhpgaaGreatDoorPB07
set_option linter.all false
namespace Go.Proofs
open Go Go.Ai
set_option maxRecDepth 1000000
noncomputable def rootTab:List (List PV×PV):=[(rootA0,.int .u32 (.ofNat 1779033703)),(rootA1,.int .u32 (.ofNat 1116352408)),(rootA2,.int .u32 (.ofNat 3144134277)),(rootA3,.int .u32 (.ofNat 1899447441)),(rootA4,.int .u32 (.ofNat 1013904242)),(rootA5,.int .u32 (.ofNat 3049323471)),(rootA6,.int .u32 (.ofNat 2773480762)),(rootA7,.int .u32 (.ofNat 3921009573)),(rootA8,.int .u32 (.ofNat 1359893119)),(rootA9,.int .u32 (.ofNat 961987163)),(rootA10,.int .u32 (.ofNat 2600822924)),(rootA11,.int .u32 (.ofNat 1508970993)),(rootA12,.int .u32 (.ofNat 528734635)),(rootA13,.int .u32 (.ofNat 2453635748)),(rootA14,.int .u32 (.ofNat 1541459225)),(rootA15,.int .u32 (.ofNat 2870763221)),(rootA16,.int .u32 (.ofNat 3624381080)),(rootA17,.int .u32 (.ofNat 310598401)),(rootA18,.int .u32 (.ofNat 607225278)),(rootA19,.int .u32 (.ofNat 1426881987)),(rootA20,.int .u32 (.ofNat 1925078388)),(rootA21,.int .u32 (.ofNat 2162078206)),(rootA22,.int .u32 (.ofNat 2614888103)),(rootA23,.int .u32 (.ofNat 3248222580)),(rootA24,.int .u32 (.ofNat 3835390401)),(rootA25,.int .u32 (.ofNat 4022224774)),(rootA26,.int .u32 (.ofNat 264347078)),(rootA27,.int .u32 (.ofNat 604807628)),(rootA28,.int .u32 (.ofNat 770255983)),(rootA29,.int .u32 (.ofNat 1249150122)),(rootA30,.int .u32 (.ofNat 1555081692)),(rootA31,.int .u32 (.ofNat 1996064986)),(rootA32,.int .u32 (.ofNat 2554220882)),(rootA33,.int .u32 (.ofNat 2821834349)),(rootA34,.int .u32 (.ofNat 2952996808)),(rootA35,.int .u32 (.ofNat 3210313671)),(rootA36,.int .u32 (.ofNat 3336571891)),(rootA37,.int .u32 (.ofNat 3584528711)),(rootA38,.int .u32 (.ofNat 113926993)),(rootA39,.int .u32 (.ofNat 338241895)),(rootA40,.int .u32 (.ofNat 666307205)),(rootA41,.int .u32 (.ofNat 773529912)),(rootA42,.int .u32 (.ofNat 1294757372)),(rootA43,.int .u32 (.ofNat 1396182291)),(rootA44,.int .u32 (.ofNat 1695183700)),(rootA45,.int .u32 (.ofNat 1986661051)),(rootA46,.int .u32 (.ofNat 2177026350)),(rootA47,.int .u32 (.ofNat 2456956037)),(rootA48,.int .u32 (.ofNat 2730485921)),(rootA49,.int .u32 (.ofNat 2820302411)),(rootA50,.int .u32 (.ofNat 3259730800)),(rootA51,.int .u32 (.ofNat 3345764771)),(rootA52,.int .u32 (.ofNat 3516065817)),(rootA53,.int .u32 (.ofNat 3600352804)),(rootA54,.int .u32 (.ofNat 4094571909)),(rootA55,.int .u32 (.ofNat 275423344)),(rootA56,.int .u32 (.ofNat 430227734)),(rootA57,.int .u32 (.ofNat 506948616)),(rootA58,.int .u32 (.ofNat 659060556)),(rootA59,.int .u32 (.ofNat 883997877)),(rootA60,.int .u32 (.ofNat 958139571)),(rootA61,.int .u32 (.ofNat 1322822218)),(rootA62,.int .u32 (.ofNat 1537002063)),(rootA63,.int .u32 (.ofNat 1747873779)),(rootA64,.int .u32 (.ofNat 1955562222)),(rootA65,.int .u32 (.ofNat 2024104815)),(rootA66,.int .u32 (.ofNat 2227730452)),(rootA67,.int .u32 (.ofNat 2361852424)),(rootA68,.int .u32 (.ofNat 2428436474)),(rootA69,.int .u32 (.ofNat 2756734187)),(rootA70,.int .u32 (.ofNat 3204031479)),(rootA71,.int .u32 (.ofNat 3329325298))]
noncomputable def rootOrc:Orc:=memoA 336 rootTab (memoC 335 primesV insOrc)
theorem rootOrc_ok:OrcOk cx Tryz.prog rootOrc:=by
 refine memoA_ok (memoC_ok insOrc_ok (memo_ok cx_ok insOrc_ok primes_run rfl)) fun s v hm=>?_
 simp only[rootTab,List.mem_cons,List.not_mem_nil,or_false,Prod.mk.injEq]at hm
 rcases hm with⟨rfl,rfl⟩|⟨rfl,rfl⟩|⟨rfl,rfl⟩|⟨rfl,rfl⟩|⟨rfl,rfl⟩|⟨rfl,rfl⟩|⟨rfl,rfl⟩|⟨rfl,rfl⟩|⟨rfl,rfl⟩|⟨rfl,rfl⟩|⟨rfl,rfl⟩|⟨rfl,rfl⟩|⟨rfl,rfl⟩|⟨rfl,rfl⟩|⟨rfl,rfl⟩|⟨rfl,rfl⟩|⟨rfl,rfl⟩|⟨rfl,rfl⟩|⟨rfl,rfl⟩|⟨rfl,rfl⟩|⟨rfl,rfl⟩|⟨rfl,rfl⟩|⟨rfl,rfl⟩|⟨rfl,rfl⟩|⟨rfl,rfl⟩|⟨rfl,rfl⟩|⟨rfl,rfl⟩|⟨rfl,rfl⟩|⟨rfl,rfl⟩|⟨rfl,rfl⟩|⟨rfl,rfl⟩|⟨rfl,rfl⟩|⟨rfl,rfl⟩|⟨rfl,rfl⟩|⟨rfl,rfl⟩|⟨rfl,rfl⟩|⟨rfl,rfl⟩|⟨rfl,rfl⟩|⟨rfl,rfl⟩|⟨rfl,rfl⟩|⟨rfl,rfl⟩|⟨rfl,rfl⟩|⟨rfl,rfl⟩|⟨rfl,rfl⟩|⟨rfl,rfl⟩|⟨rfl,rfl⟩|⟨rfl,rfl⟩|⟨rfl,rfl⟩|⟨rfl,rfl⟩|⟨rfl,rfl⟩|⟨rfl,rfl⟩|⟨rfl,rfl⟩|⟨rfl,rfl⟩|⟨rfl,rfl⟩|⟨rfl,rfl⟩|⟨rfl,rfl⟩|⟨rfl,rfl⟩|⟨rfl,rfl⟩|⟨rfl,rfl⟩|⟨rfl,rfl⟩|⟨rfl,rfl⟩|⟨rfl,rfl⟩|⟨rfl,rfl⟩|⟨rfl,rfl⟩|⟨rfl,rfl⟩|⟨rfl,rfl⟩|⟨rfl,rfl⟩|⟨rfl,rfl⟩|⟨rfl,rfl⟩|⟨rfl,rfl⟩|⟨rfl,rfl⟩|⟨rfl,rfl⟩
 ·exact memo_ok cx_ok insOrc_ok rootR0 rfl
 ·exact memo_ok cx_ok insOrc_ok rootR1 rfl
 ·exact memo_ok cx_ok insOrc_ok rootR2 rfl
 ·exact memo_ok cx_ok insOrc_ok rootR3 rfl
 ·exact memo_ok cx_ok insOrc_ok rootR4 rfl
 ·exact memo_ok cx_ok insOrc_ok rootR5 rfl
 ·exact memo_ok cx_ok insOrc_ok rootR6 rfl
 ·exact memo_ok cx_ok insOrc_ok rootR7 rfl
 ·exact memo_ok cx_ok insOrc_ok rootR8 rfl
 ·exact memo_ok cx_ok insOrc_ok rootR9 rfl
 ·exact memo_ok cx_ok insOrc_ok rootR10 rfl
 ·exact memo_ok cx_ok insOrc_ok rootR11 rfl
 ·exact memo_ok cx_ok insOrc_ok rootR12 rfl
 ·exact memo_ok cx_ok insOrc_ok rootR13 rfl
 ·exact memo_ok cx_ok insOrc_ok rootR14 rfl
 ·exact memo_ok cx_ok insOrc_ok rootR15 rfl
 ·exact memo_ok cx_ok insOrc_ok rootR16 rfl
 ·exact memo_ok cx_ok insOrc_ok rootR17 rfl
 ·exact memo_ok cx_ok insOrc_ok rootR18 rfl
 ·exact memo_ok cx_ok insOrc_ok rootR19 rfl
 ·exact memo_ok cx_ok insOrc_ok rootR20 rfl
 ·exact memo_ok cx_ok insOrc_ok rootR21 rfl
 ·exact memo_ok cx_ok insOrc_ok rootR22 rfl
 ·exact memo_ok cx_ok insOrc_ok rootR23 rfl
 ·exact memo_ok cx_ok insOrc_ok rootR24 rfl
 ·exact memo_ok cx_ok insOrc_ok rootR25 rfl
 ·exact memo_ok cx_ok insOrc_ok rootR26 rfl
 ·exact memo_ok cx_ok insOrc_ok rootR27 rfl
 ·exact memo_ok cx_ok insOrc_ok rootR28 rfl
 ·exact memo_ok cx_ok insOrc_ok rootR29 rfl
 ·exact memo_ok cx_ok insOrc_ok rootR30 rfl
 ·exact memo_ok cx_ok insOrc_ok rootR31 rfl
 ·exact memo_ok cx_ok insOrc_ok rootR32 rfl
 ·exact memo_ok cx_ok insOrc_ok rootR33 rfl
 ·exact memo_ok cx_ok insOrc_ok rootR34 rfl
 ·exact memo_ok cx_ok insOrc_ok rootR35 rfl
 ·exact memo_ok cx_ok insOrc_ok rootR36 rfl
 ·exact memo_ok cx_ok insOrc_ok rootR37 rfl
 ·exact memo_ok cx_ok insOrc_ok rootR38 rfl
 ·exact memo_ok cx_ok insOrc_ok rootR39 rfl
 ·exact memo_ok cx_ok insOrc_ok rootR40 rfl
 ·exact memo_ok cx_ok insOrc_ok rootR41 rfl
 ·exact memo_ok cx_ok insOrc_ok rootR42 rfl
 ·exact memo_ok cx_ok insOrc_ok rootR43 rfl
 ·exact memo_ok cx_ok insOrc_ok rootR44 rfl
 ·exact memo_ok cx_ok insOrc_ok rootR45 rfl
 ·exact memo_ok cx_ok insOrc_ok rootR46 rfl
 ·exact memo_ok cx_ok insOrc_ok rootR47 rfl
 ·exact memo_ok cx_ok insOrc_ok rootR48 rfl
 ·exact memo_ok cx_ok insOrc_ok rootR49 rfl
 ·exact memo_ok cx_ok insOrc_ok rootR50 rfl
 ·exact memo_ok cx_ok insOrc_ok rootR51 rfl
 ·exact memo_ok cx_ok insOrc_ok rootR52 rfl
 ·exact memo_ok cx_ok insOrc_ok rootR53 rfl
 ·exact memo_ok cx_ok insOrc_ok rootR54 rfl
 ·exact memo_ok cx_ok insOrc_ok rootR55 rfl
 ·exact memo_ok cx_ok insOrc_ok rootR56 rfl
 ·exact memo_ok cx_ok insOrc_ok rootR57 rfl
 ·exact memo_ok cx_ok insOrc_ok rootR58 rfl
 ·exact memo_ok cx_ok insOrc_ok rootR59 rfl
 ·exact memo_ok cx_ok insOrc_ok rootR60 rfl
 ·exact memo_ok cx_ok insOrc_ok rootR61 rfl
 ·exact memo_ok cx_ok insOrc_ok rootR62 rfl
 ·exact memo_ok cx_ok insOrc_ok rootR63 rfl
 ·exact memo_ok cx_ok insOrc_ok rootR64 rfl
 ·exact memo_ok cx_ok insOrc_ok rootR65 rfl
 ·exact memo_ok cx_ok insOrc_ok rootR66 rfl
 ·exact memo_ok cx_ok insOrc_ok rootR67 rfl
 ·exact memo_ok cx_ok insOrc_ok rootR68 rfl
 ·exact memo_ok cx_ok insOrc_ok rootR69 rfl
 ·exact memo_ok cx_ok insOrc_ok rootR70 rfl
 ·exact memo_ok cx_ok insOrc_ok rootR71 rfl
def constV:AV:=.tup [.p (.agg [.int .u32 (.ofNat 1779033703),.int .u32 (.ofNat 3144134277),.int .u32 (.ofNat 1013904242),.int .u32 (.ofNat 2773480762),.int .u32 (.ofNat 1359893119),.int .u32 (.ofNat 2600822924),.int .u32 (.ofNat 528734635),.int .u32 (.ofNat 1541459225)]),.p (.agg [.int .u32 (.ofNat 1116352408),.int .u32 (.ofNat 1899447441),.int .u32 (.ofNat 3049323471),.int .u32 (.ofNat 3921009573),.int .u32 (.ofNat 961987163),.int .u32 (.ofNat 1508970993),.int .u32 (.ofNat 2453635748),.int .u32 (.ofNat 2870763221),.int .u32 (.ofNat 3624381080),.int .u32 (.ofNat 310598401),.int .u32 (.ofNat 607225278),.int .u32 (.ofNat 1426881987),.int .u32 (.ofNat 1925078388),.int .u32 (.ofNat 2162078206),.int .u32 (.ofNat 2614888103),.int .u32 (.ofNat 3248222580),.int .u32 (.ofNat 3835390401),.int .u32 (.ofNat 4022224774),.int .u32 (.ofNat 264347078),.int .u32 (.ofNat 604807628),.int .u32 (.ofNat 770255983),.int .u32 (.ofNat 1249150122),.int .u32 (.ofNat 1555081692),.int .u32 (.ofNat 1996064986),.int .u32 (.ofNat 2554220882),.int .u32 (.ofNat 2821834349),.int .u32 (.ofNat 2952996808),.int .u32 (.ofNat 3210313671),.int .u32 (.ofNat 3336571891),.int .u32 (.ofNat 3584528711),.int .u32 (.ofNat 113926993),.int .u32 (.ofNat 338241895),.int .u32 (.ofNat 666307205),.int .u32 (.ofNat 773529912),.int .u32 (.ofNat 1294757372),.int .u32 (.ofNat 1396182291),.int .u32 (.ofNat 1695183700),.int .u32 (.ofNat 1986661051),.int .u32 (.ofNat 2177026350),.int .u32 (.ofNat 2456956037),.int .u32 (.ofNat 2730485921),.int .u32 (.ofNat 2820302411),.int .u32 (.ofNat 3259730800),.int .u32 (.ofNat 3345764771),.int .u32 (.ofNat 3516065817),.int .u32 (.ofNat 3600352804),.int .u32 (.ofNat 4094571909),.int .u32 (.ofNat 275423344),.int .u32 (.ofNat 430227734),.int .u32 (.ofNat 506948616),.int .u32 (.ofNat 659060556),.int .u32 (.ofNat 883997877),.int .u32 (.ofNat 958139571),.int .u32 (.ofNat 1322822218),.int .u32 (.ofNat 1537002063),.int .u32 (.ofNat 1747873779),.int .u32 (.ofNat 1955562222),.int .u32 (.ofNat 2024104815),.int .u32 (.ofNat 2227730452),.int .u32 (.ofNat 2361852424),.int .u32 (.ofNat 2428436474),.int .u32 (.ofNat 2756734187),.int .u32 (.ofNat 3204031479),.int .u32 (.ofNat 3329325298)])]
theorem const_run:retIs (callN cx rootOrc 1000000 (.fn 296 []) [] none) constV=true:=by decide +kernel
noncomputable def constOrc:Orc:=memoC 296 constV insOrc
theorem constOrc_ok:OrcOk cx Tryz.prog constOrc:=memoC_ok insOrc_ok (memo_ok cx_ok rootOrc_ok const_run rfl)
end Go.Proofs

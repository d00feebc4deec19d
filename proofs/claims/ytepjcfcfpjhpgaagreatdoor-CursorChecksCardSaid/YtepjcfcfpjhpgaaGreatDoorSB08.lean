/- What is proved: the constants of the digest. Conditions: none. -/
import Derived.Test.YtepjcfcfpjhpgaaGreatDoorSB03
import Derived.Test.YtepjcfcfpjhpgaaGreatDoorSB04
import Derived.Test.YtepjcfcfpjhpgaaGreatDoorSB05
import Derived.Test.YtepjcfcfpjhpgaaGreatDoorSB06
import Derived.Test.YtepjcfcfpjhpgaaGreatDoorSB07
set_option linter.all false
namespace Go.Proofs
open Go Go.Ai
set_option maxRecDepth 1000000
noncomputable def rootTab:List (List PV×PV):=[(rootA0,kW 1779033703),(rootA1,kW 1116352408),(rootA2,kW 3144134277),(rootA3,kW 1899447441),(rootA4,kW 1013904242),(rootA5,kW 3049323471),(rootA6,kW 2773480762),(rootA7,kW 3921009573),(rootA8,kW 1359893119),(rootA9,kW 961987163),(rootA10,kW 2600822924),(rootA11,kW 1508970993),(rootA12,kW 528734635),(rootA13,kW 2453635748),(rootA14,kW 1541459225),(rootA15,kW 2870763221),(rootA16,kW 3624381080),(rootA17,kW 310598401),(rootA18,kW 607225278),(rootA19,kW 1426881987),(rootA20,kW 1925078388),(rootA21,kW 2162078206),(rootA22,kW 2614888103),(rootA23,kW 3248222580),(rootA24,kW 3835390401),(rootA25,kW 4022224774),(rootA26,kW 264347078),(rootA27,kW 604807628),(rootA28,kW 770255983),(rootA29,kW 1249150122),(rootA30,kW 1555081692),(rootA31,kW 1996064986),(rootA32,kW 2554220882),(rootA33,kW 2821834349),(rootA34,kW 2952996808),(rootA35,kW 3210313671),(rootA36,kW 3336571891),(rootA37,kW 3584528711),(rootA38,kW 113926993),(rootA39,kW 338241895),(rootA40,kW 666307205),(rootA41,kW 773529912),(rootA42,kW 1294757372),(rootA43,kW 1396182291),(rootA44,kW 1695183700),(rootA45,kW 1986661051),(rootA46,kW 2177026350),(rootA47,kW 2456956037),(rootA48,kW 2730485921),(rootA49,kW 2820302411),(rootA50,kW 3259730800),(rootA51,kW 3345764771),(rootA52,kW 3516065817),(rootA53,kW 3600352804),(rootA54,kW 4094571909),(rootA55,kW 275423344),(rootA56,kW 430227734),(rootA57,kW 506948616),(rootA58,kW 659060556),(rootA59,kW 883997877),(rootA60,kW 958139571),(rootA61,kW 1322822218),(rootA62,kW 1537002063),(rootA63,kW 1747873779),(rootA64,kW 1955562222),(rootA65,kW 2024104815),(rootA66,kW 2227730452),(rootA67,kW 2361852424),(rootA68,kW 2428436474),(rootA69,kW 2756734187),(rootA70,kW 3204031479),(rootA71,kW 3329325298)]
noncomputable def rootOrc:Orc:=memoA 336 rootTab (memoC 335 primesV insOrc)
theorem rootOrc_ok:OrcOk cx Tryz.prog rootOrc:=by
 refine memoA_ok (memoC_ok insOrc_ok (memo_ok cx_ok insOrc_ok primes_run rfl)) fun s v hm=>?_
 simp only[rootTab,List.mem_cons,List.not_mem_nil,or_false,Prod.mk.injEq]at hm
 rcases hm with⟨rfl,rfl⟩|⟨rfl,rfl⟩|⟨rfl,rfl⟩|⟨rfl,rfl⟩|⟨rfl,rfl⟩|⟨rfl,rfl⟩|⟨rfl,rfl⟩|⟨rfl,rfl⟩|⟨rfl,rfl⟩|⟨rfl,rfl⟩|⟨rfl,rfl⟩|⟨rfl,rfl⟩|⟨rfl,rfl⟩|⟨rfl,rfl⟩|⟨rfl,rfl⟩|⟨rfl,rfl⟩|⟨rfl,rfl⟩|⟨rfl,rfl⟩|⟨rfl,rfl⟩|⟨rfl,rfl⟩|⟨rfl,rfl⟩|⟨rfl,rfl⟩|⟨rfl,rfl⟩|⟨rfl,rfl⟩|⟨rfl,rfl⟩|⟨rfl,rfl⟩|⟨rfl,rfl⟩|⟨rfl,rfl⟩|⟨rfl,rfl⟩|⟨rfl,rfl⟩|⟨rfl,rfl⟩|⟨rfl,rfl⟩|⟨rfl,rfl⟩|⟨rfl,rfl⟩|⟨rfl,rfl⟩|⟨rfl,rfl⟩|⟨rfl,rfl⟩|⟨rfl,rfl⟩|⟨rfl,rfl⟩|⟨rfl,rfl⟩|⟨rfl,rfl⟩|⟨rfl,rfl⟩|⟨rfl,rfl⟩|⟨rfl,rfl⟩|⟨rfl,rfl⟩|⟨rfl,rfl⟩|⟨rfl,rfl⟩|⟨rfl,rfl⟩|⟨rfl,rfl⟩|⟨rfl,rfl⟩|⟨rfl,rfl⟩|⟨rfl,rfl⟩|⟨rfl,rfl⟩|⟨rfl,rfl⟩|⟨rfl,rfl⟩|⟨rfl,rfl⟩|⟨rfl,rfl⟩|⟨rfl,rfl⟩|⟨rfl,rfl⟩|⟨rfl,rfl⟩|⟨rfl,rfl⟩|⟨rfl,rfl⟩|⟨rfl,rfl⟩|⟨rfl,rfl⟩|⟨rfl,rfl⟩|⟨rfl,rfl⟩|⟨rfl,rfl⟩|⟨rfl,rfl⟩|⟨rfl,rfl⟩|⟨rfl,rfl⟩|⟨rfl,rfl⟩|⟨rfl,rfl⟩
 ·exact memo_ok cx_ok insOrc_ok rootR0 rfl
 ·exact memo_ok cx_ok insOrc_ok rootR1 rfl
 ·exact memo_ok cx_ok insOrc_ok rootR2 rfl
 ·exact memo_ok cx_ok insOrc_ok rootR3 rfl
 ·exact memo_ok cx_ok insOrc_ok rootR4 rfl
 ·exact memo_ok cx_ok insOrc_ok rootR5 rfl
 ·exact memo_ok cx_ok insOrc_ok rootR6 rfl
 ·exact memo_ok cx_ok insOrc_ok rootR7 rfl
 ·exact memo_ok cx_ok insOrc_ok rootR8 rfl
 ·exact memo_ok cx_ok insOrc_ok rootR9 rfl
 ·exact memo_ok cx_ok insOrc_ok rootR10 rfl
 ·exact memo_ok cx_ok insOrc_ok rootR11 rfl
 ·exact memo_ok cx_ok insOrc_ok rootR12 rfl
 ·exact memo_ok cx_ok insOrc_ok rootR13 rfl
 ·exact memo_ok cx_ok insOrc_ok rootR14 rfl
 ·exact memo_ok cx_ok insOrc_ok rootR15 rfl
 ·exact memo_ok cx_ok insOrc_ok rootR16 rfl
 ·exact memo_ok cx_ok insOrc_ok rootR17 rfl
 ·exact memo_ok cx_ok insOrc_ok rootR18 rfl
 ·exact memo_ok cx_ok insOrc_ok rootR19 rfl
 ·exact memo_ok cx_ok insOrc_ok rootR20 rfl
 ·exact memo_ok cx_ok insOrc_ok rootR21 rfl
 ·exact memo_ok cx_ok insOrc_ok rootR22 rfl
 ·exact memo_ok cx_ok insOrc_ok rootR23 rfl
 ·exact memo_ok cx_ok insOrc_ok rootR24 rfl
 ·exact memo_ok cx_ok insOrc_ok rootR25 rfl
 ·exact memo_ok cx_ok insOrc_ok rootR26 rfl
 ·exact memo_ok cx_ok insOrc_ok rootR27 rfl
 ·exact memo_ok cx_ok insOrc_ok rootR28 rfl
 ·exact memo_ok cx_ok insOrc_ok rootR29 rfl
 ·exact memo_ok cx_ok insOrc_ok rootR30 rfl
 ·exact memo_ok cx_ok insOrc_ok rootR31 rfl
 ·exact memo_ok cx_ok insOrc_ok rootR32 rfl
 ·exact memo_ok cx_ok insOrc_ok rootR33 rfl
 ·exact memo_ok cx_ok insOrc_ok rootR34 rfl
 ·exact memo_ok cx_ok insOrc_ok rootR35 rfl
 ·exact memo_ok cx_ok insOrc_ok rootR36 rfl
 ·exact memo_ok cx_ok insOrc_ok rootR37 rfl
 ·exact memo_ok cx_ok insOrc_ok rootR38 rfl
 ·exact memo_ok cx_ok insOrc_ok rootR39 rfl
 ·exact memo_ok cx_ok insOrc_ok rootR40 rfl
 ·exact memo_ok cx_ok insOrc_ok rootR41 rfl
 ·exact memo_ok cx_ok insOrc_ok rootR42 rfl
 ·exact memo_ok cx_ok insOrc_ok rootR43 rfl
 ·exact memo_ok cx_ok insOrc_ok rootR44 rfl
 ·exact memo_ok cx_ok insOrc_ok rootR45 rfl
 ·exact memo_ok cx_ok insOrc_ok rootR46 rfl
 ·exact memo_ok cx_ok insOrc_ok rootR47 rfl
 ·exact memo_ok cx_ok insOrc_ok rootR48 rfl
 ·exact memo_ok cx_ok insOrc_ok rootR49 rfl
 ·exact memo_ok cx_ok insOrc_ok rootR50 rfl
 ·exact memo_ok cx_ok insOrc_ok rootR51 rfl
 ·exact memo_ok cx_ok insOrc_ok rootR52 rfl
 ·exact memo_ok cx_ok insOrc_ok rootR53 rfl
 ·exact memo_ok cx_ok insOrc_ok rootR54 rfl
 ·exact memo_ok cx_ok insOrc_ok rootR55 rfl
 ·exact memo_ok cx_ok insOrc_ok rootR56 rfl
 ·exact memo_ok cx_ok insOrc_ok rootR57 rfl
 ·exact memo_ok cx_ok insOrc_ok rootR58 rfl
 ·exact memo_ok cx_ok insOrc_ok rootR59 rfl
 ·exact memo_ok cx_ok insOrc_ok rootR60 rfl
 ·exact memo_ok cx_ok insOrc_ok rootR61 rfl
 ·exact memo_ok cx_ok insOrc_ok rootR62 rfl
 ·exact memo_ok cx_ok insOrc_ok rootR63 rfl
 ·exact memo_ok cx_ok insOrc_ok rootR64 rfl
 ·exact memo_ok cx_ok insOrc_ok rootR65 rfl
 ·exact memo_ok cx_ok insOrc_ok rootR66 rfl
 ·exact memo_ok cx_ok insOrc_ok rootR67 rfl
 ·exact memo_ok cx_ok insOrc_ok rootR68 rfl
 ·exact memo_ok cx_ok insOrc_ok rootR69 rfl
 ·exact memo_ok cx_ok insOrc_ok rootR70 rfl
 ·exact memo_ok cx_ok insOrc_ok rootR71 rfl
def constV:AV:=.tup [.p (.agg [kW 1779033703,kW 3144134277,kW 1013904242,kW 2773480762,kW 1359893119,kW 2600822924,kW 528734635,kW 1541459225]),.p (.agg [kW 1116352408,kW 1899447441,kW 3049323471,kW 3921009573,kW 961987163,kW 1508970993,kW 2453635748,kW 2870763221,kW 3624381080,kW 310598401,kW 607225278,kW 1426881987,kW 1925078388,kW 2162078206,kW 2614888103,kW 3248222580,kW 3835390401,kW 4022224774,kW 264347078,kW 604807628,kW 770255983,kW 1249150122,kW 1555081692,kW 1996064986,kW 2554220882,kW 2821834349,kW 2952996808,kW 3210313671,kW 3336571891,kW 3584528711,kW 113926993,kW 338241895,kW 666307205,kW 773529912,kW 1294757372,kW 1396182291,kW 1695183700,kW 1986661051,kW 2177026350,kW 2456956037,kW 2730485921,kW 2820302411,kW 3259730800,kW 3345764771,kW 3516065817,kW 3600352804,kW 4094571909,kW 275423344,kW 430227734,kW 506948616,kW 659060556,kW 883997877,kW 958139571,kW 1322822218,kW 1537002063,kW 1747873779,kW 1955562222,kW 2024104815,kW 2227730452,kW 2361852424,kW 2428436474,kW 2756734187,kW 3204031479,kW 3329325298])]
theorem const_run:retIs (callN cx rootOrc 1000000 (.fn 296 []) [] none) constV=true:=by decide +kernel
noncomputable def constOrc:Orc:=memoC 296 constV insOrc
theorem constOrc_ok:OrcOk cx Tryz.prog constOrc:=memoC_ok insOrc_ok (memo_ok cx_ok rootOrc_ok const_run rfl)
end Go.Proofs

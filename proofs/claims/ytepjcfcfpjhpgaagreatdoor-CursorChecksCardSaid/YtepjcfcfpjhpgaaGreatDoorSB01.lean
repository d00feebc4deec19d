/- What is proved: the seat's program is the interpreter's context ('cx_ok'). Conditions: none. -/
import Derived.Test.YtepjcfcfpjhpgaaGreatDoorSA08
import Derived.Test.YtepjcfcfpjhpgaaGreatDoorProg
import GoSem.Core.Layout
import Derived.KernelRfl
set_option linter.all false
set_option maxRecDepth 100000
namespace Go.Ai
def TbAt{α:Type} (p:Nat→α→Prop) (a b:Nat):Tb α→Prop
 |.lf=>True
 |.nd v l r=>p b v∧TbAt p (2*a) (a+b) l∧TbAt p (2*a) (2*a+b) r
theorem Tb.get_at{α:Type} {p:Nat→α→Prop} (t:Tb α):∀ (a b n:Nat) (x:α),TbAt p a b t→t.get n=some x→p (a*n+b) x:=by
 induction t with
 |lf=>intro a b n x _ h;cases h
 |nd v l r ihl ihr=>
  intro a b n x ht h
  obtain⟨h1,h2,h3⟩:=ht
  cases n with
  |zero=>
   have:v=x:=Option.some.inj h
   subst this
   simpa using h1
  |succ m=>
   have h':cond (Nat.beq (Nat.mod m 2) 0) (l.get (Nat.div m 2)) (r.get (Nat.div m 2))=some x:=h
   rcases even_cases m with⟨e1,e2⟩|⟨e1,e2⟩
   ·rw[e1]at h'
    have:=ihl _ _ _ _ h2 h'
    have e:2*a*Nat.div m 2+(a+b)=a*(m+1)+b:=by
     rw[Nat.mul_add,Nat.mul_one,e2]
     have:Nat.div (2*Nat.div m 2) 2=Nat.div m 2:=by
      show(2*Nat.div m 2) / 2=Nat.div m 2;omega
     rw[this,Nat.mul_comm 2 a,Nat.mul_assoc,Nat.add_assoc]
    rw[e]at this;exact this
   ·rw[e1]at h'
    have:=ihr _ _ _ _ h3 h'
    have e:2*a*Nat.div m 2+(2*a+b)=a*(m+1)+b:=by
     rw[Nat.mul_add,Nat.mul_one,e2]
     have:Nat.div (2*Nat.div m 2+1) 2=Nat.div m 2:=by
      show(2*Nat.div m 2+1) / 2=Nat.div m 2;omega
     rw[this,Nat.mul_add,Nat.mul_one,Nat.mul_comm 2 a,Nat.mul_assoc,Nat.mul_comm a 2]
     omega
    rw[e]at this;exact this
end Go.Ai
namespace Go.Proofs
open Go Go.Ai
def constsV:PV:=.agg [.int .u32 (.ofNat 1116352408),.int .u32 (.ofNat 1899447441),.int .u32 (.ofNat 3049323471),.int .u32 (.ofNat 3921009573),.int .u32 (.ofNat 961987163),.int .u32 (.ofNat 1508970993),.int .u32 (.ofNat 2453635748),.int .u32 (.ofNat 2870763221),.int .u32 (.ofNat 3624381080),.int .u32 (.ofNat 310598401),.int .u32 (.ofNat 607225278),.int .u32 (.ofNat 1426881987),.int .u32 (.ofNat 1925078388),.int .u32 (.ofNat 2162078206),.int .u32 (.ofNat 2614888103),.int .u32 (.ofNat 3248222580),.int .u32 (.ofNat 3835390401),.int .u32 (.ofNat 4022224774),.int .u32 (.ofNat 264347078),.int .u32 (.ofNat 604807628),.int .u32 (.ofNat 770255983),.int .u32 (.ofNat 1249150122),.int .u32 (.ofNat 1555081692),.int .u32 (.ofNat 1996064986),.int .u32 (.ofNat 2554220882),.int .u32 (.ofNat 2821834349),.int .u32 (.ofNat 2952996808),.int .u32 (.ofNat 3210313671),.int .u32 (.ofNat 3336571891),.int .u32 (.ofNat 3584528711),.int .u32 (.ofNat 113926993),.int .u32 (.ofNat 338241895),.int .u32 (.ofNat 666307205),.int .u32 (.ofNat 773529912),.int .u32 (.ofNat 1294757372),.int .u32 (.ofNat 1396182291),.int .u32 (.ofNat 1695183700),.int .u32 (.ofNat 1986661051),.int .u32 (.ofNat 2177026350),.int .u32 (.ofNat 2456956037),.int .u32 (.ofNat 2730485921),.int .u32 (.ofNat 2820302411),.int .u32 (.ofNat 3259730800),.int .u32 (.ofNat 3345764771),.int .u32 (.ofNat 3516065817),.int .u32 (.ofNat 3600352804),.int .u32 (.ofNat 4094571909),.int .u32 (.ofNat 275423344),.int .u32 (.ofNat 430227734),.int .u32 (.ofNat 506948616),.int .u32 (.ofNat 659060556),.int .u32 (.ofNat 883997877),.int .u32 (.ofNat 958139571),.int .u32 (.ofNat 1322822218),.int .u32 (.ofNat 1537002063),.int .u32 (.ofNat 1747873779),.int .u32 (.ofNat 1955562222),.int .u32 (.ofNat 2024104815),.int .u32 (.ofNat 2227730452),.int .u32 (.ofNat 2361852424),.int .u32 (.ofNat 2428436474),.int .u32 (.ofNat 2756734187),.int .u32 (.ofNat 3204031479),.int .u32 (.ofNat 3329325298)]
abbrev lE{α:Type} (v:α):Tb α:=.nd v .lf .lf
theorem kT:True:=trivial
theorem lP{α:Type} {p:Nat→α→Prop} {a b:Nat} {v:α} (h:p b v):TbAt p a b (lE v):=⟨h,kT,kT⟩
theorem lF{a b:Nat} {v:Func} (h:Tryz.prog.funcs[b]?=some v) (h2:(v.name == "runtime.NumGoroutine")=false:=by rfl):TbAt (fun i v=>Tryz.prog.funcs[i]?=some v∧(v.name == "runtime.NumGoroutine")=false) a b (lE v):=⟨⟨h,h2⟩,kT,kT⟩
open Tryz in
noncomputable def fnTab:Tb Func:=(.nd f0 (.nd f1 (.nd f3 (.nd f7 (.nd f15 (.nd f31 (.nd f63 (.nd f127 (lE f255) (lE f383)) (.nd f191 (lE f319) .lf)) (.nd f95 (.nd f159 (lE f287) (lE f415)) (.nd f223 (lE f351) .lf))) (.nd f47 (.nd f79 (.nd f143 (lE f271) (lE f399)) (.nd f207 (lE f335) .lf)) (.nd f111 (.nd f175 (lE f303) .lf) (.nd f239 (lE f367) .lf)))) (.nd f23 (.nd f39 (.nd f71 (.nd f135 (lE f263) (lE f391)) (.nd f199 (lE f327) .lf)) (.nd f103 (.nd f167 (lE f295) .lf) (.nd f231 (lE f359) .lf))) (.nd f55 (.nd f87 (.nd f151 (lE f279) (lE f407)) (.nd f215 (lE f343) .lf)) (.nd f119 (.nd f183 (lE f311) .lf) (.nd f247 (lE f375) .lf))))) (.nd f11 (.nd f19 (.nd f35 (.nd f67 (.nd f131 (lE f259) (lE f387)) (.nd f195 (lE f323) .lf)) (.nd f99 (.nd f163 (lE f291) (lE f419)) (.nd f227 (lE f355) .lf))) (.nd f51 (.nd f83 (.nd f147 (lE f275) (lE f403)) (.nd f211 (lE f339) .lf)) (.nd f115 (.nd f179 (lE f307) .lf) (.nd f243 (lE f371) .lf)))) (.nd f27 (.nd f43 (.nd f75 (.nd f139 (lE f267) (lE f395)) (.nd f203 (lE f331) .lf)) (.nd f107 (.nd f171 (lE f299) .lf) (.nd f235 (lE f363) .lf))) (.nd f59 (.nd f91 (.nd f155 (lE f283) (lE f411)) (.nd f219 (lE f347) .lf)) (.nd f123 (.nd f187 (lE f315) .lf) (.nd f251 (lE f379) .lf)))))) (.nd f5 (.nd f9 (.nd f17 (.nd f33 (.nd f65 (.nd f129 (lE f257) (lE f385)) (.nd f193 (lE f321) .lf)) (.nd f97 (.nd f161 (lE f289) (lE f417)) (.nd f225 (lE f353) .lf))) (.nd f49 (.nd f81 (.nd f145 (lE f273) (lE f401)) (.nd f209 (lE f337) .lf)) (.nd f113 (.nd f177 (lE f305) .lf) (.nd f241 (lE f369) .lf)))) (.nd f25 (.nd f41 (.nd f73 (.nd f137 (lE f265) (lE f393)) (.nd f201 (lE f329) .lf)) (.nd f105 (.nd f169 (lE f297) .lf) (.nd f233 (lE f361) .lf))) (.nd f57 (.nd f89 (.nd f153 (lE f281) (lE f409)) (.nd f217 (lE f345) .lf)) (.nd f121 (.nd f185 (lE f313) .lf) (.nd f249 (lE f377) .lf))))) (.nd f13 (.nd f21 (.nd f37 (.nd f69 (.nd f133 (lE f261) (lE f389)) (.nd f197 (lE f325) .lf)) (.nd f101 (.nd f165 (lE f293) .lf) (.nd f229 (lE f357) .lf))) (.nd f53 (.nd f85 (.nd f149 (lE f277) (lE f405)) (.nd f213 (lE f341) .lf)) (.nd f117 (.nd f181 (lE f309) .lf) (.nd f245 (lE f373) .lf)))) (.nd f29 (.nd f45 (.nd f77 (.nd f141 (lE f269) (lE f397)) (.nd f205 (lE f333) .lf)) (.nd f109 (.nd f173 (lE f301) .lf) (.nd f237 (lE f365) .lf))) (.nd f61 (.nd f93 (.nd f157 (lE f285) (lE f413)) (.nd f221 (lE f349) .lf)) (.nd f125 (.nd f189 (lE f317) .lf) (.nd f253 (lE f381) .lf))))))) (.nd f2 (.nd f4 (.nd f8 (.nd f16 (.nd f32 (.nd f64 (.nd f128 (lE f256) (lE f384)) (.nd f192 (lE f320) .lf)) (.nd f96 (.nd f160 (lE f288) (lE f416)) (.nd f224 (lE f352) .lf))) (.nd f48 (.nd f80 (.nd f144 (lE f272) (lE f400)) (.nd f208 (lE f336) .lf)) (.nd f112 (.nd f176 (lE f304) .lf) (.nd f240 (lE f368) .lf)))) (.nd f24 (.nd f40 (.nd f72 (.nd f136 (lE f264) (lE f392)) (.nd f200 (lE f328) .lf)) (.nd f104 (.nd f168 (lE f296) .lf) (.nd f232 (lE f360) .lf))) (.nd f56 (.nd f88 (.nd f152 (lE f280) (lE f408)) (.nd f216 (lE f344) .lf)) (.nd f120 (.nd f184 (lE f312) .lf) (.nd f248 (lE f376) .lf))))) (.nd f12 (.nd f20 (.nd f36 (.nd f68 (.nd f132 (lE f260) (lE f388)) (.nd f196 (lE f324) .lf)) (.nd f100 (.nd f164 (lE f292) (lE f420)) (.nd f228 (lE f356) .lf))) (.nd f52 (.nd f84 (.nd f148 (lE f276) (lE f404)) (.nd f212 (lE f340) .lf)) (.nd f116 (.nd f180 (lE f308) .lf) (.nd f244 (lE f372) .lf)))) (.nd f28 (.nd f44 (.nd f76 (.nd f140 (lE f268) (lE f396)) (.nd f204 (lE f332) .lf)) (.nd f108 (.nd f172 (lE f300) .lf) (.nd f236 (lE f364) .lf))) (.nd f60 (.nd f92 (.nd f156 (lE f284) (lE f412)) (.nd f220 (lE f348) .lf)) (.nd f124 (.nd f188 (lE f316) .lf) (.nd f252 (lE f380) .lf)))))) (.nd f6 (.nd f10 (.nd f18 (.nd f34 (.nd f66 (.nd f130 (lE f258) (lE f386)) (.nd f194 (lE f322) .lf)) (.nd f98 (.nd f162 (lE f290) (lE f418)) (.nd f226 (lE f354) .lf))) (.nd f50 (.nd f82 (.nd f146 (lE f274) (lE f402)) (.nd f210 (lE f338) .lf)) (.nd f114 (.nd f178 (lE f306) .lf) (.nd f242 (lE f370) .lf)))) (.nd f26 (.nd f42 (.nd f74 (.nd f138 (lE f266) (lE f394)) (.nd f202 (lE f330) .lf)) (.nd f106 (.nd f170 (lE f298) .lf) (.nd f234 (lE f362) .lf))) (.nd f58 (.nd f90 (.nd f154 (lE f282) (lE f410)) (.nd f218 (lE f346) .lf)) (.nd f122 (.nd f186 (lE f314) .lf) (.nd f250 (lE f378) .lf))))) (.nd f14 (.nd f22 (.nd f38 (.nd f70 (.nd f134 (lE f262) (lE f390)) (.nd f198 (lE f326) .lf)) (.nd f102 (.nd f166 (lE f294) .lf) (.nd f230 (lE f358) .lf))) (.nd f54 (.nd f86 (.nd f150 (lE f278) (lE f406)) (.nd f214 (lE f342) .lf)) (.nd f118 (.nd f182 (lE f310) .lf) (.nd f246 (lE f374) .lf)))) (.nd f30 (.nd f46 (.nd f78 (.nd f142 (lE f270) (lE f398)) (.nd f206 (lE f334) .lf)) (.nd f110 (.nd f174 (lE f302) .lf) (.nd f238 (lE f366) .lf))) (.nd f62 (.nd f94 (.nd f158 (lE f286) (lE f414)) (.nd f222 (lE f350) .lf)) (.nd f126 (.nd f190 (lE f318) .lf) (.nd f254 (lE f382) .lf))))))))
open Tryz in
noncomputable def tyTab:Tb TypeInfo:=(.nd t0 (.nd t1 (.nd t3 (.nd t7 (.nd t15 (.nd t31 (.nd t63 (.nd t127 (lE t255) (lE t383)) (.nd t191 (lE t319) (lE t447))) (.nd t95 (.nd t159 (lE t287) (lE t415)) (.nd t223 (lE t351) (lE t479)))) (.nd t47 (.nd t79 (.nd t143 (lE t271) (lE t399)) (.nd t207 (lE t335) (lE t463))) (.nd t111 (.nd t175 (lE t303) (lE t431)) (.nd t239 (lE t367) .lf)))) (.nd t23 (.nd t39 (.nd t71 (.nd t135 (lE t263) (lE t391)) (.nd t199 (lE t327) (lE t455))) (.nd t103 (.nd t167 (lE t295) (lE t423)) (.nd t231 (lE t359) (lE t487)))) (.nd t55 (.nd t87 (.nd t151 (lE t279) (lE t407)) (.nd t215 (lE t343) (lE t471))) (.nd t119 (.nd t183 (lE t311) (lE t439)) (.nd t247 (lE t375) .lf))))) (.nd t11 (.nd t19 (.nd t35 (.nd t67 (.nd t131 (lE t259) (lE t387)) (.nd t195 (lE t323) (lE t451))) (.nd t99 (.nd t163 (lE t291) (lE t419)) (.nd t227 (lE t355) (lE t483)))) (.nd t51 (.nd t83 (.nd t147 (lE t275) (lE t403)) (.nd t211 (lE t339) (lE t467))) (.nd t115 (.nd t179 (lE t307) (lE t435)) (.nd t243 (lE t371) .lf)))) (.nd t27 (.nd t43 (.nd t75 (.nd t139 (lE t267) (lE t395)) (.nd t203 (lE t331) (lE t459))) (.nd t107 (.nd t171 (lE t299) (lE t427)) (.nd t235 (lE t363) (lE t491)))) (.nd t59 (.nd t91 (.nd t155 (lE t283) (lE t411)) (.nd t219 (lE t347) (lE t475))) (.nd t123 (.nd t187 (lE t315) (lE t443)) (.nd t251 (lE t379) .lf)))))) (.nd t5 (.nd t9 (.nd t17 (.nd t33 (.nd t65 (.nd t129 (lE t257) (lE t385)) (.nd t193 (lE t321) (lE t449))) (.nd t97 (.nd t161 (lE t289) (lE t417)) (.nd t225 (lE t353) (lE t481)))) (.nd t49 (.nd t81 (.nd t145 (lE t273) (lE t401)) (.nd t209 (lE t337) (lE t465))) (.nd t113 (.nd t177 (lE t305) (lE t433)) (.nd t241 (lE t369) .lf)))) (.nd t25 (.nd t41 (.nd t73 (.nd t137 (lE t265) (lE t393)) (.nd t201 (lE t329) (lE t457))) (.nd t105 (.nd t169 (lE t297) (lE t425)) (.nd t233 (lE t361) (lE t489)))) (.nd t57 (.nd t89 (.nd t153 (lE t281) (lE t409)) (.nd t217 (lE t345) (lE t473))) (.nd t121 (.nd t185 (lE t313) (lE t441)) (.nd t249 (lE t377) .lf))))) (.nd t13 (.nd t21 (.nd t37 (.nd t69 (.nd t133 (lE t261) (lE t389)) (.nd t197 (lE t325) (lE t453))) (.nd t101 (.nd t165 (lE t293) (lE t421)) (.nd t229 (lE t357) (lE t485)))) (.nd t53 (.nd t85 (.nd t149 (lE t277) (lE t405)) (.nd t213 (lE t341) (lE t469))) (.nd t117 (.nd t181 (lE t309) (lE t437)) (.nd t245 (lE t373) .lf)))) (.nd t29 (.nd t45 (.nd t77 (.nd t141 (lE t269) (lE t397)) (.nd t205 (lE t333) (lE t461))) (.nd t109 (.nd t173 (lE t301) (lE t429)) (.nd t237 (lE t365) (lE t493)))) (.nd t61 (.nd t93 (.nd t157 (lE t285) (lE t413)) (.nd t221 (lE t349) (lE t477))) (.nd t125 (.nd t189 (lE t317) (lE t445)) (.nd t253 (lE t381) .lf))))))) (.nd t2 (.nd t4 (.nd t8 (.nd t16 (.nd t32 (.nd t64 (.nd t128 (lE t256) (lE t384)) (.nd t192 (lE t320) (lE t448))) (.nd t96 (.nd t160 (lE t288) (lE t416)) (.nd t224 (lE t352) (lE t480)))) (.nd t48 (.nd t80 (.nd t144 (lE t272) (lE t400)) (.nd t208 (lE t336) (lE t464))) (.nd t112 (.nd t176 (lE t304) (lE t432)) (.nd t240 (lE t368) .lf)))) (.nd t24 (.nd t40 (.nd t72 (.nd t136 (lE t264) (lE t392)) (.nd t200 (lE t328) (lE t456))) (.nd t104 (.nd t168 (lE t296) (lE t424)) (.nd t232 (lE t360) (lE t488)))) (.nd t56 (.nd t88 (.nd t152 (lE t280) (lE t408)) (.nd t216 (lE t344) (lE t472))) (.nd t120 (.nd t184 (lE t312) (lE t440)) (.nd t248 (lE t376) .lf))))) (.nd t12 (.nd t20 (.nd t36 (.nd t68 (.nd t132 (lE t260) (lE t388)) (.nd t196 (lE t324) (lE t452))) (.nd t100 (.nd t164 (lE t292) (lE t420)) (.nd t228 (lE t356) (lE t484)))) (.nd t52 (.nd t84 (.nd t148 (lE t276) (lE t404)) (.nd t212 (lE t340) (lE t468))) (.nd t116 (.nd t180 (lE t308) (lE t436)) (.nd t244 (lE t372) .lf)))) (.nd t28 (.nd t44 (.nd t76 (.nd t140 (lE t268) (lE t396)) (.nd t204 (lE t332) (lE t460))) (.nd t108 (.nd t172 (lE t300) (lE t428)) (.nd t236 (lE t364) (lE t492)))) (.nd t60 (.nd t92 (.nd t156 (lE t284) (lE t412)) (.nd t220 (lE t348) (lE t476))) (.nd t124 (.nd t188 (lE t316) (lE t444)) (.nd t252 (lE t380) .lf)))))) (.nd t6 (.nd t10 (.nd t18 (.nd t34 (.nd t66 (.nd t130 (lE t258) (lE t386)) (.nd t194 (lE t322) (lE t450))) (.nd t98 (.nd t162 (lE t290) (lE t418)) (.nd t226 (lE t354) (lE t482)))) (.nd t50 (.nd t82 (.nd t146 (lE t274) (lE t402)) (.nd t210 (lE t338) (lE t466))) (.nd t114 (.nd t178 (lE t306) (lE t434)) (.nd t242 (lE t370) .lf)))) (.nd t26 (.nd t42 (.nd t74 (.nd t138 (lE t266) (lE t394)) (.nd t202 (lE t330) (lE t458))) (.nd t106 (.nd t170 (lE t298) (lE t426)) (.nd t234 (lE t362) (lE t490)))) (.nd t58 (.nd t90 (.nd t154 (lE t282) (lE t410)) (.nd t218 (lE t346) (lE t474))) (.nd t122 (.nd t186 (lE t314) (lE t442)) (.nd t250 (lE t378) .lf))))) (.nd t14 (.nd t22 (.nd t38 (.nd t70 (.nd t134 (lE t262) (lE t390)) (.nd t198 (lE t326) (lE t454))) (.nd t102 (.nd t166 (lE t294) (lE t422)) (.nd t230 (lE t358) (lE t486)))) (.nd t54 (.nd t86 (.nd t150 (lE t278) (lE t406)) (.nd t214 (lE t342) (lE t470))) (.nd t118 (.nd t182 (lE t310) (lE t438)) (.nd t246 (lE t374) .lf)))) (.nd t30 (.nd t46 (.nd t78 (.nd t142 (lE t270) (lE t398)) (.nd t206 (lE t334) (lE t462))) (.nd t110 (.nd t174 (lE t302) (lE t430)) (.nd t238 (lE t366) (lE t494)))) (.nd t62 (.nd t94 (.nd t158 (lE t286) (lE t414)) (.nd t222 (lE t350) (lE t478))) (.nd t126 (.nd t190 (lE t318) (lE t446)) (.nd t254 (lE t382) .lf))))))))
noncomputable def cx:Ctx:={ext:=fun f=>cond (Nat.beq f 342) (some .same) (cond (Nat.beq f 345) (some .overlaps) (cond (Nat.beq f 355) (some .overlaps) (cond (Nat.beq f 369) (some .sqrt) (cond (Nat.beq f 387) (some .frombits) (cond (Nat.beq f 388) (some .bits) (none)))))),fn:=fnTab.get,info:=tyTab.get,under:=underOf tyTab.get,glob:=fun g=>cond (Nat.beq g 0) (some constsV) none,lies:=fun e n o u=>liesAt Tryz.prog Tryz.prog.depth e (n / Tryz.prog.cellsOf e) o u 1,same:=fun e u=>sameLayout Tryz.prog Tryz.prog.depth e u,plain:=fun t=>elemN t [27,29,46,64,71,93,100]}
open Tryz in
theorem fnTab_at:TbAt (fun i v=>Tryz.prog.funcs[i]?=some v∧(v.name == "runtime.NumGoroutine")=false) 1 0 fnTab:=⟨⟨func0,rfl⟩,⟨⟨func1,rfl⟩,⟨⟨func3,rfl⟩,⟨⟨func7,rfl⟩,⟨⟨func15,rfl⟩,⟨⟨func31,rfl⟩,⟨⟨func63,rfl⟩,⟨⟨func127,rfl⟩,lF func255,lF func383⟩,⟨⟨func191,rfl⟩,lF func319,kT⟩⟩,⟨⟨func95,rfl⟩,⟨⟨func159,rfl⟩,lF func287,lF func415⟩,⟨⟨func223,rfl⟩,lF func351,kT⟩⟩⟩,⟨⟨func47,rfl⟩,⟨⟨func79,rfl⟩,⟨⟨func143,rfl⟩,lF func271,lF func399⟩,⟨⟨func207,rfl⟩,lF func335,kT⟩⟩,⟨⟨func111,rfl⟩,⟨⟨func175,rfl⟩,lF func303,kT⟩,⟨⟨func239,rfl⟩,lF func367,kT⟩⟩⟩⟩,⟨⟨func23,rfl⟩,⟨⟨func39,rfl⟩,⟨⟨func71,rfl⟩,⟨⟨func135,rfl⟩,lF func263,lF func391⟩,⟨⟨func199,rfl⟩,lF func327,kT⟩⟩,⟨⟨func103,rfl⟩,⟨⟨func167,rfl⟩,lF func295,kT⟩,⟨⟨func231,rfl⟩,lF func359,kT⟩⟩⟩,⟨⟨func55,rfl⟩,⟨⟨func87,rfl⟩,⟨⟨func151,rfl⟩,lF func279,lF func407⟩,⟨⟨func215,rfl⟩,lF func343,kT⟩⟩,⟨⟨func119,rfl⟩,⟨⟨func183,rfl⟩,lF func311,kT⟩,⟨⟨func247,rfl⟩,lF func375,kT⟩⟩⟩⟩⟩,⟨⟨func11,rfl⟩,⟨⟨func19,rfl⟩,⟨⟨func35,rfl⟩,⟨⟨func67,rfl⟩,⟨⟨func131,rfl⟩,lF func259,lF func387⟩,⟨⟨func195,rfl⟩,lF func323,kT⟩⟩,⟨⟨func99,rfl⟩,⟨⟨func163,rfl⟩,lF func291,lF func419⟩,⟨⟨func227,rfl⟩,lF func355,kT⟩⟩⟩,⟨⟨func51,rfl⟩,⟨⟨func83,rfl⟩,⟨⟨func147,rfl⟩,lF func275,lF func403⟩,⟨⟨func211,rfl⟩,lF func339,kT⟩⟩,⟨⟨func115,rfl⟩,⟨⟨func179,rfl⟩,lF func307,kT⟩,⟨⟨func243,rfl⟩,lF func371,kT⟩⟩⟩⟩,⟨⟨func27,rfl⟩,⟨⟨func43,rfl⟩,⟨⟨func75,rfl⟩,⟨⟨func139,rfl⟩,lF func267,lF func395⟩,⟨⟨func203,rfl⟩,lF func331,kT⟩⟩,⟨⟨func107,rfl⟩,⟨⟨func171,rfl⟩,lF func299,kT⟩,⟨⟨func235,rfl⟩,lF func363,kT⟩⟩⟩,⟨⟨func59,rfl⟩,⟨⟨func91,rfl⟩,⟨⟨func155,rfl⟩,lF func283,lF func411⟩,⟨⟨func219,rfl⟩,lF func347,kT⟩⟩,⟨⟨func123,rfl⟩,⟨⟨func187,rfl⟩,lF func315,kT⟩,⟨⟨func251,rfl⟩,lF func379,kT⟩⟩⟩⟩⟩⟩,⟨⟨func5,rfl⟩,⟨⟨func9,rfl⟩,⟨⟨func17,rfl⟩,⟨⟨func33,rfl⟩,⟨⟨func65,rfl⟩,⟨⟨func129,rfl⟩,lF func257,lF func385⟩,⟨⟨func193,rfl⟩,lF func321,kT⟩⟩,⟨⟨func97,rfl⟩,⟨⟨func161,rfl⟩,lF func289,lF func417⟩,⟨⟨func225,rfl⟩,lF func353,kT⟩⟩⟩,⟨⟨func49,rfl⟩,⟨⟨func81,rfl⟩,⟨⟨func145,rfl⟩,lF func273,lF func401⟩,⟨⟨func209,rfl⟩,lF func337,kT⟩⟩,⟨⟨func113,rfl⟩,⟨⟨func177,rfl⟩,lF func305,kT⟩,⟨⟨func241,rfl⟩,lF func369,kT⟩⟩⟩⟩,⟨⟨func25,rfl⟩,⟨⟨func41,rfl⟩,⟨⟨func73,rfl⟩,⟨⟨func137,rfl⟩,lF func265,lF func393⟩,⟨⟨func201,rfl⟩,lF func329,kT⟩⟩,⟨⟨func105,rfl⟩,⟨⟨func169,rfl⟩,lF func297,kT⟩,⟨⟨func233,rfl⟩,lF func361,kT⟩⟩⟩,⟨⟨func57,rfl⟩,⟨⟨func89,rfl⟩,⟨⟨func153,rfl⟩,lF func281,lF func409⟩,⟨⟨func217,rfl⟩,lF func345,kT⟩⟩,⟨⟨func121,rfl⟩,⟨⟨func185,rfl⟩,lF func313,kT⟩,⟨⟨func249,rfl⟩,lF func377,kT⟩⟩⟩⟩⟩,⟨⟨func13,rfl⟩,⟨⟨func21,rfl⟩,⟨⟨func37,rfl⟩,⟨⟨func69,rfl⟩,⟨⟨func133,rfl⟩,lF func261,lF func389⟩,⟨⟨func197,rfl⟩,lF func325,kT⟩⟩,⟨⟨func101,rfl⟩,⟨⟨func165,rfl⟩,lF func293,kT⟩,⟨⟨func229,rfl⟩,lF func357,kT⟩⟩⟩,⟨⟨func53,rfl⟩,⟨⟨func85,rfl⟩,⟨⟨func149,rfl⟩,lF func277,lF func405⟩,⟨⟨func213,rfl⟩,lF func341,kT⟩⟩,⟨⟨func117,rfl⟩,⟨⟨func181,rfl⟩,lF func309,kT⟩,⟨⟨func245,rfl⟩,lF func373,kT⟩⟩⟩⟩,⟨⟨func29,rfl⟩,⟨⟨func45,rfl⟩,⟨⟨func77,rfl⟩,⟨⟨func141,rfl⟩,lF func269,lF func397⟩,⟨⟨func205,rfl⟩,lF func333,kT⟩⟩,⟨⟨func109,rfl⟩,⟨⟨func173,rfl⟩,lF func301,kT⟩,⟨⟨func237,rfl⟩,lF func365,kT⟩⟩⟩,⟨⟨func61,rfl⟩,⟨⟨func93,rfl⟩,⟨⟨func157,rfl⟩,lF func285,lF func413⟩,⟨⟨func221,rfl⟩,lF func349,kT⟩⟩,⟨⟨func125,rfl⟩,⟨⟨func189,rfl⟩,lF func317,kT⟩,⟨⟨func253,rfl⟩,lF func381,kT⟩⟩⟩⟩⟩⟩⟩,⟨⟨func2,rfl⟩,⟨⟨func4,rfl⟩,⟨⟨func8,rfl⟩,⟨⟨func16,rfl⟩,⟨⟨func32,rfl⟩,⟨⟨func64,rfl⟩,⟨⟨func128,rfl⟩,lF func256,lF func384⟩,⟨⟨func192,rfl⟩,lF func320,kT⟩⟩,⟨⟨func96,rfl⟩,⟨⟨func160,rfl⟩,lF func288,lF func416⟩,⟨⟨func224,rfl⟩,lF func352,kT⟩⟩⟩,⟨⟨func48,rfl⟩,⟨⟨func80,rfl⟩,⟨⟨func144,rfl⟩,lF func272,lF func400⟩,⟨⟨func208,rfl⟩,lF func336,kT⟩⟩,⟨⟨func112,rfl⟩,⟨⟨func176,rfl⟩,lF func304,kT⟩,⟨⟨func240,rfl⟩,lF func368,kT⟩⟩⟩⟩,⟨⟨func24,rfl⟩,⟨⟨func40,rfl⟩,⟨⟨func72,rfl⟩,⟨⟨func136,rfl⟩,lF func264,lF func392⟩,⟨⟨func200,rfl⟩,lF func328,kT⟩⟩,⟨⟨func104,rfl⟩,⟨⟨func168,rfl⟩,lF func296,kT⟩,⟨⟨func232,rfl⟩,lF func360,kT⟩⟩⟩,⟨⟨func56,rfl⟩,⟨⟨func88,rfl⟩,⟨⟨func152,rfl⟩,lF func280,lF func408⟩,⟨⟨func216,rfl⟩,lF func344,kT⟩⟩,⟨⟨func120,rfl⟩,⟨⟨func184,rfl⟩,lF func312,kT⟩,⟨⟨func248,rfl⟩,lF func376,kT⟩⟩⟩⟩⟩,⟨⟨func12,rfl⟩,⟨⟨func20,rfl⟩,⟨⟨func36,rfl⟩,⟨⟨func68,rfl⟩,⟨⟨func132,rfl⟩,lF func260,lF func388⟩,⟨⟨func196,rfl⟩,lF func324,kT⟩⟩,⟨⟨func100,rfl⟩,⟨⟨func164,rfl⟩,lF func292,lF func420⟩,⟨⟨func228,rfl⟩,lF func356,kT⟩⟩⟩,⟨⟨func52,rfl⟩,⟨⟨func84,rfl⟩,⟨⟨func148,rfl⟩,lF func276,lF func404⟩,⟨⟨func212,rfl⟩,lF func340,kT⟩⟩,⟨⟨func116,rfl⟩,⟨⟨func180,rfl⟩,lF func308,kT⟩,⟨⟨func244,rfl⟩,lF func372,kT⟩⟩⟩⟩,⟨⟨func28,rfl⟩,⟨⟨func44,rfl⟩,⟨⟨func76,rfl⟩,⟨⟨func140,rfl⟩,lF func268,lF func396⟩,⟨⟨func204,rfl⟩,lF func332,kT⟩⟩,⟨⟨func108,rfl⟩,⟨⟨func172,rfl⟩,lF func300,kT⟩,⟨⟨func236,rfl⟩,lF func364,kT⟩⟩⟩,⟨⟨func60,rfl⟩,⟨⟨func92,rfl⟩,⟨⟨func156,rfl⟩,lF func284,lF func412⟩,⟨⟨func220,rfl⟩,lF func348,kT⟩⟩,⟨⟨func124,rfl⟩,⟨⟨func188,rfl⟩,lF func316,kT⟩,⟨⟨func252,rfl⟩,lF func380,kT⟩⟩⟩⟩⟩⟩,⟨⟨func6,rfl⟩,⟨⟨func10,rfl⟩,⟨⟨func18,rfl⟩,⟨⟨func34,rfl⟩,⟨⟨func66,rfl⟩,⟨⟨func130,rfl⟩,lF func258,lF func386⟩,⟨⟨func194,rfl⟩,lF func322,kT⟩⟩,⟨⟨func98,rfl⟩,⟨⟨func162,rfl⟩,lF func290,lF func418⟩,⟨⟨func226,rfl⟩,lF func354,kT⟩⟩⟩,⟨⟨func50,rfl⟩,⟨⟨func82,rfl⟩,⟨⟨func146,rfl⟩,lF func274,lF func402⟩,⟨⟨func210,rfl⟩,lF func338,kT⟩⟩,⟨⟨func114,rfl⟩,⟨⟨func178,rfl⟩,lF func306,kT⟩,⟨⟨func242,rfl⟩,lF func370,kT⟩⟩⟩⟩,⟨⟨func26,rfl⟩,⟨⟨func42,rfl⟩,⟨⟨func74,rfl⟩,⟨⟨func138,rfl⟩,lF func266,lF func394⟩,⟨⟨func202,rfl⟩,lF func330,kT⟩⟩,⟨⟨func106,rfl⟩,⟨⟨func170,rfl⟩,lF func298,kT⟩,⟨⟨func234,rfl⟩,lF func362,kT⟩⟩⟩,⟨⟨func58,rfl⟩,⟨⟨func90,rfl⟩,⟨⟨func154,rfl⟩,lF func282,lF func410⟩,⟨⟨func218,rfl⟩,lF func346,kT⟩⟩,⟨⟨func122,rfl⟩,⟨⟨func186,rfl⟩,lF func314,kT⟩,⟨⟨func250,rfl⟩,lF func378,kT⟩⟩⟩⟩⟩,⟨⟨func14,rfl⟩,⟨⟨func22,rfl⟩,⟨⟨func38,rfl⟩,⟨⟨func70,rfl⟩,⟨⟨func134,rfl⟩,lF func262,lF func390⟩,⟨⟨func198,rfl⟩,lF func326,kT⟩⟩,⟨⟨func102,rfl⟩,⟨⟨func166,rfl⟩,lF func294,kT⟩,⟨⟨func230,rfl⟩,lF func358,kT⟩⟩⟩,⟨⟨func54,rfl⟩,⟨⟨func86,rfl⟩,⟨⟨func150,rfl⟩,lF func278,lF func406⟩,⟨⟨func214,rfl⟩,lF func342,kT⟩⟩,⟨⟨func118,rfl⟩,⟨⟨func182,rfl⟩,lF func310,kT⟩,⟨⟨func246,rfl⟩,lF func374,kT⟩⟩⟩⟩,⟨⟨func30,rfl⟩,⟨⟨func46,rfl⟩,⟨⟨func78,rfl⟩,⟨⟨func142,rfl⟩,lF func270,lF func398⟩,⟨⟨func206,rfl⟩,lF func334,kT⟩⟩,⟨⟨func110,rfl⟩,⟨⟨func174,rfl⟩,lF func302,kT⟩,⟨⟨func238,rfl⟩,lF func366,kT⟩⟩⟩,⟨⟨func62,rfl⟩,⟨⟨func94,rfl⟩,⟨⟨func158,rfl⟩,lF func286,lF func414⟩,⟨⟨func222,rfl⟩,lF func350,kT⟩⟩,⟨⟨func126,rfl⟩,⟨⟨func190,rfl⟩,lF func318,kT⟩,⟨⟨func254,rfl⟩,lF func382,kT⟩⟩⟩⟩⟩⟩⟩⟩
open Tryz in
theorem tyTab_at:TbAt (fun i v=>Tryz.prog.types[i]?=some v) 1 0 tyTab:=⟨type0,⟨type1,⟨type3,⟨type7,⟨type15,⟨type31,⟨type63,⟨type127,lP type255,lP type383⟩,⟨type191,lP type319,lP type447⟩⟩,⟨type95,⟨type159,lP type287,lP type415⟩,⟨type223,lP type351,lP type479⟩⟩⟩,⟨type47,⟨type79,⟨type143,lP type271,lP type399⟩,⟨type207,lP type335,lP type463⟩⟩,⟨type111,⟨type175,lP type303,lP type431⟩,⟨type239,lP type367,kT⟩⟩⟩⟩,⟨type23,⟨type39,⟨type71,⟨type135,lP type263,lP type391⟩,⟨type199,lP type327,lP type455⟩⟩,⟨type103,⟨type167,lP type295,lP type423⟩,⟨type231,lP type359,lP type487⟩⟩⟩,⟨type55,⟨type87,⟨type151,lP type279,lP type407⟩,⟨type215,lP type343,lP type471⟩⟩,⟨type119,⟨type183,lP type311,lP type439⟩,⟨type247,lP type375,kT⟩⟩⟩⟩⟩,⟨type11,⟨type19,⟨type35,⟨type67,⟨type131,lP type259,lP type387⟩,⟨type195,lP type323,lP type451⟩⟩,⟨type99,⟨type163,lP type291,lP type419⟩,⟨type227,lP type355,lP type483⟩⟩⟩,⟨type51,⟨type83,⟨type147,lP type275,lP type403⟩,⟨type211,lP type339,lP type467⟩⟩,⟨type115,⟨type179,lP type307,lP type435⟩,⟨type243,lP type371,kT⟩⟩⟩⟩,⟨type27,⟨type43,⟨type75,⟨type139,lP type267,lP type395⟩,⟨type203,lP type331,lP type459⟩⟩,⟨type107,⟨type171,lP type299,lP type427⟩,⟨type235,lP type363,lP type491⟩⟩⟩,⟨type59,⟨type91,⟨type155,lP type283,lP type411⟩,⟨type219,lP type347,lP type475⟩⟩,⟨type123,⟨type187,lP type315,lP type443⟩,⟨type251,lP type379,kT⟩⟩⟩⟩⟩⟩,⟨type5,⟨type9,⟨type17,⟨type33,⟨type65,⟨type129,lP type257,lP type385⟩,⟨type193,lP type321,lP type449⟩⟩,⟨type97,⟨type161,lP type289,lP type417⟩,⟨type225,lP type353,lP type481⟩⟩⟩,⟨type49,⟨type81,⟨type145,lP type273,lP type401⟩,⟨type209,lP type337,lP type465⟩⟩,⟨type113,⟨type177,lP type305,lP type433⟩,⟨type241,lP type369,kT⟩⟩⟩⟩,⟨type25,⟨type41,⟨type73,⟨type137,lP type265,lP type393⟩,⟨type201,lP type329,lP type457⟩⟩,⟨type105,⟨type169,lP type297,lP type425⟩,⟨type233,lP type361,lP type489⟩⟩⟩,⟨type57,⟨type89,⟨type153,lP type281,lP type409⟩,⟨type217,lP type345,lP type473⟩⟩,⟨type121,⟨type185,lP type313,lP type441⟩,⟨type249,lP type377,kT⟩⟩⟩⟩⟩,⟨type13,⟨type21,⟨type37,⟨type69,⟨type133,lP type261,lP type389⟩,⟨type197,lP type325,lP type453⟩⟩,⟨type101,⟨type165,lP type293,lP type421⟩,⟨type229,lP type357,lP type485⟩⟩⟩,⟨type53,⟨type85,⟨type149,lP type277,lP type405⟩,⟨type213,lP type341,lP type469⟩⟩,⟨type117,⟨type181,lP type309,lP type437⟩,⟨type245,lP type373,kT⟩⟩⟩⟩,⟨type29,⟨type45,⟨type77,⟨type141,lP type269,lP type397⟩,⟨type205,lP type333,lP type461⟩⟩,⟨type109,⟨type173,lP type301,lP type429⟩,⟨type237,lP type365,lP type493⟩⟩⟩,⟨type61,⟨type93,⟨type157,lP type285,lP type413⟩,⟨type221,lP type349,lP type477⟩⟩,⟨type125,⟨type189,lP type317,lP type445⟩,⟨type253,lP type381,kT⟩⟩⟩⟩⟩⟩⟩,⟨type2,⟨type4,⟨type8,⟨type16,⟨type32,⟨type64,⟨type128,lP type256,lP type384⟩,⟨type192,lP type320,lP type448⟩⟩,⟨type96,⟨type160,lP type288,lP type416⟩,⟨type224,lP type352,lP type480⟩⟩⟩,⟨type48,⟨type80,⟨type144,lP type272,lP type400⟩,⟨type208,lP type336,lP type464⟩⟩,⟨type112,⟨type176,lP type304,lP type432⟩,⟨type240,lP type368,kT⟩⟩⟩⟩,⟨type24,⟨type40,⟨type72,⟨type136,lP type264,lP type392⟩,⟨type200,lP type328,lP type456⟩⟩,⟨type104,⟨type168,lP type296,lP type424⟩,⟨type232,lP type360,lP type488⟩⟩⟩,⟨type56,⟨type88,⟨type152,lP type280,lP type408⟩,⟨type216,lP type344,lP type472⟩⟩,⟨type120,⟨type184,lP type312,lP type440⟩,⟨type248,lP type376,kT⟩⟩⟩⟩⟩,⟨type12,⟨type20,⟨type36,⟨type68,⟨type132,lP type260,lP type388⟩,⟨type196,lP type324,lP type452⟩⟩,⟨type100,⟨type164,lP type292,lP type420⟩,⟨type228,lP type356,lP type484⟩⟩⟩,⟨type52,⟨type84,⟨type148,lP type276,lP type404⟩,⟨type212,lP type340,lP type468⟩⟩,⟨type116,⟨type180,lP type308,lP type436⟩,⟨type244,lP type372,kT⟩⟩⟩⟩,⟨type28,⟨type44,⟨type76,⟨type140,lP type268,lP type396⟩,⟨type204,lP type332,lP type460⟩⟩,⟨type108,⟨type172,lP type300,lP type428⟩,⟨type236,lP type364,lP type492⟩⟩⟩,⟨type60,⟨type92,⟨type156,lP type284,lP type412⟩,⟨type220,lP type348,lP type476⟩⟩,⟨type124,⟨type188,lP type316,lP type444⟩,⟨type252,lP type380,kT⟩⟩⟩⟩⟩⟩,⟨type6,⟨type10,⟨type18,⟨type34,⟨type66,⟨type130,lP type258,lP type386⟩,⟨type194,lP type322,lP type450⟩⟩,⟨type98,⟨type162,lP type290,lP type418⟩,⟨type226,lP type354,lP type482⟩⟩⟩,⟨type50,⟨type82,⟨type146,lP type274,lP type402⟩,⟨type210,lP type338,lP type466⟩⟩,⟨type114,⟨type178,lP type306,lP type434⟩,⟨type242,lP type370,kT⟩⟩⟩⟩,⟨type26,⟨type42,⟨type74,⟨type138,lP type266,lP type394⟩,⟨type202,lP type330,lP type458⟩⟩,⟨type106,⟨type170,lP type298,lP type426⟩,⟨type234,lP type362,lP type490⟩⟩⟩,⟨type58,⟨type90,⟨type154,lP type282,lP type410⟩,⟨type218,lP type346,lP type474⟩⟩,⟨type122,⟨type186,lP type314,lP type442⟩,⟨type250,lP type378,kT⟩⟩⟩⟩⟩,⟨type14,⟨type22,⟨type38,⟨type70,⟨type134,lP type262,lP type390⟩,⟨type198,lP type326,lP type454⟩⟩,⟨type102,⟨type166,lP type294,lP type422⟩,⟨type230,lP type358,lP type486⟩⟩⟩,⟨type54,⟨type86,⟨type150,lP type278,lP type406⟩,⟨type214,lP type342,lP type470⟩⟩,⟨type118,⟨type182,lP type310,lP type438⟩,⟨type246,lP type374,kT⟩⟩⟩⟩,⟨type30,⟨type46,⟨type78,⟨type142,lP type270,lP type398⟩,⟨type206,lP type334,lP type462⟩⟩,⟨type110,⟨type174,lP type302,lP type430⟩,⟨type238,lP type366,lP type494⟩⟩⟩,⟨type62,⟨type94,⟨type158,lP type286,lP type414⟩,⟨type222,lP type350,lP type478⟩⟩,⟨type126,⟨type190,lP type318,lP type446⟩,⟨type254,lP type382,kT⟩⟩⟩⟩⟩⟩⟩⟩
theorem fn_ok{f x} (h:fnTab.get f=some x):Tryz.prog.funcs[f]?=some x∧(x.name == "runtime.NumGoroutine")=false:=by
 have:=Tb.get_at fnTab 1 0 f x fnTab_at h
 simpa using this
theorem info_ok{t i} (h:tyTab.get t=some i):Tryz.prog.info? t=some i:=by
 have:=Tb.get_at tyTab 1 0 t i tyTab_at h
 simp only[Nat.one_mul,Nat.add_zero]at this
 have hlt:t<Tryz.prog.types.size:=(Array.getElem?_eq_some_iff.1 this).1
 unfold Tables.info?
 first
  | (rw[if_pos hlt];exact this)
  |simpa [hlt]using this
theorem under_ok{t d} (h:underOf tyTab.get t=some d):Tryz.prog.underlying t=some d:=by
 unfold underOf at h
 unfold Program.underlying
 cases hi:tyTab.get t with
 |none=>rw[hi]at h;cases h
 |some i=>
  rw[hi]at h
  rw[info_ok hi]
  simp only at h
  split at h
  ·rename_i n u hd
   cases hu:tyTab.get u with
   |none=>rw[hu]at h;cases h
   |some j=>
    rw[hu]at h
    obtain⟨desc,str,size,bytes,hp,al,fa,z,cmp,ms⟩:=i
    simp only at hd
    subst hd
    simp only[info_ok hu,Option.map_some]
    exact h
  ·rename_i d' hd
   cases h
   obtain⟨desc,str,size,bytes,hp,al,fa,z,cmp,ms⟩:=i
   cases desc<;>first|rfl|exact absurd rfl (hd _ _)
theorem plain_ok:∀ t,elemN t [27,29,46,64,71,93,100]=true→Tryz.prog.eqGuardType Tryz.prog.depth t=false∧∀ fs,Tryz.prog.underlying t=some (.struct fs)→Tryz.prog.stoodInHeld t=false:=by
 intro t h
 rw[elemN_iff]at h
 simp only[List.mem_cons,List.not_mem_nil,or_false]at h
 rcases h with rfl|rfl|rfl|rfl|rfl|rfl|rfl
 ·exact⟨by kernel_rfl,fun _ _=>by kernel_rfl⟩
 ·exact⟨by kernel_rfl,fun _ _=>by kernel_rfl⟩
 ·exact⟨by kernel_rfl,fun _ _=>by kernel_rfl⟩
 ·exact⟨by kernel_rfl,fun _ _=>by kernel_rfl⟩
 ·exact⟨by kernel_rfl,fun _ _=>by kernel_rfl⟩
 ·exact⟨by kernel_rfl,fun _ _=>by kernel_rfl⟩
 ·exact⟨by kernel_rfl,fun _ _=>by kernel_rfl⟩
theorem ext_ok:∀ f k,cx.ext f=some k→∃ fn,Tryz.prog.funcs[f]?=some fn∧(fn.name == "runtime.NumGoroutine")=false∧fn.body.isNone=true∧Extern.findNext fn=none∧Extern.find fn=some (k.entry fn) ∧
  (k=.overlaps→∃ t e sz,fn.params[0]?=some t∧cx.under t=some (.slice e)∧sizeOf? cx e=some sz):=by
 intro f k h
 have hb:∀ i,Nat.beq f i=true→f=i:=fun i=>Nat.eq_of_beq_eq_true
 unfold cx at h
 simp only at h
 cases h342:Nat.beq f 342 with
 |true=>
  rw[h342]at h
  cases h
  have:=hb _ h342
  subst this
  exact⟨Tryz.f342,Tryz.func342,rfl,rfl,by kernel_rfl,by kernel_rfl,fun hh=>by cases hh⟩
 |false=>
 rw[h342]at h
 simp only[cond]at h
 cases h345:Nat.beq f 345 with
 |true=>
  rw[h345]at h
  cases h
  have:=hb _ h345
  subst this
  exact⟨Tryz.f345,Tryz.func345,rfl,rfl,by kernel_rfl,by kernel_rfl,fun _=>⟨59,64,22,rfl,by kernel_rfl,by kernel_rfl⟩⟩
 |false=>
 rw[h345]at h
 simp only[cond]at h
 cases h355:Nat.beq f 355 with
 |true=>
  rw[h355]at h
  cases h
  have:=hb _ h355
  subst this
  exact⟨Tryz.f355,Tryz.func355,rfl,rfl,by kernel_rfl,by kernel_rfl,fun _=>⟨23,3,1,rfl,by kernel_rfl,by kernel_rfl⟩⟩
 |false=>
 rw[h355]at h
 simp only[cond]at h
 cases h369:Nat.beq f 369 with
 |true=>
  rw[h369]at h
  cases h
  have:=hb _ h369
  subst this
  exact⟨Tryz.f369,Tryz.func369,rfl,rfl,by kernel_rfl,by kernel_rfl,fun hh=>by cases hh⟩
 |false=>
 rw[h369]at h
 simp only[cond]at h
 cases h387:Nat.beq f 387 with
 |true=>
  rw[h387]at h
  cases h
  have:=hb _ h387
  subst this
  exact⟨Tryz.f387,Tryz.func387,rfl,rfl,by kernel_rfl,by kernel_rfl,fun hh=>by cases hh⟩
 |false=>
 rw[h387]at h
 simp only[cond]at h
 cases h388:Nat.beq f 388 with
 |true=>
  rw[h388]at h
  cases h
  have:=hb _ h388
  subst this
  exact⟨Tryz.f388,Tryz.func388,rfl,rfl,by kernel_rfl,by kernel_rfl,fun hh=>by cases hh⟩
 |false=>
 rw[h388]at h
 simp only[cond]at h
 cases h
theorem cx_ok:CtxOk cx Tryz.prog where
 fn f x h:=(fn_ok h).1
 info t i h:=info_ok h
 under t d h:=under_ok h
 lies e n o u h:=h
 same e u h:=h
 plain:=plain_ok
 mixed:=by kernel_rfl
 ext:=ext_ok
 named f x h:=(fn_ok h).2
end Go.Proofs

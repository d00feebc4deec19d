/- What is proved: a panic that is recovered; the contract of Parse ('parse20'). Conditions: the text has less than 100000 bytes. -/
import Derived.Test.YtepjcfcfpjhpgaaGreatDoorPD03
import Derived.Test.YtepjcfcfpjhpgaaGreatDoorPD01
import Derived.Test.YtepjcfcfpjhpgaaGreatDoorPA12
set_option linter.all false
set_option maxRecDepth 100000
namespace Go.Proofs
open Go Go.Ai
theorem target_cap{f:FuncId} {x:AV}:target? (.func f [] [x]) []=some (.fn f [x]):=(rfl)
theorem z235:zero? cx 235=some (.agg [.int .i64 0]):=by kernel_rfl
theorem s235:sizeOf? cx 235=some 1:=by kernel_rfl
theorem f235_0:(fieldOf cx 235 0).map (fun f=>(f.type,f.offset))=some (36,0):=by kernel_rfl
theorem b44:build? cx 44 []=some (.p (.agg [.int .i64 0,.nils])):=by kernel_rfl
def prD(n l:Int) (cv:CV):List DO:=[.cells 36 [.one (.co (.pv (.int .i64 n)))],.cells 44 [.one (.co (.pv (.int .i64 l))),.one (.co cv)]]
theorem den_two{h:List Ob} {ρ:List Nat} {n l:Int} {cv:CV} (D:Den h ρ (prD n l cv)):∃ i j v,ρ=[i,j]∧i ≠ j∧hget h i=.cells 36 [.p (.int .i64 n)]∧hget h j=.cells 44 [.p (.int .i64 l),v]∧Co1 h v cv:=by
 obtain⟨hl,hn,ha⟩:=D
 match ρ,hl with
 | [i,j],_=>
  have h0:=ha 0 _ i rfl rfl
  have h1:=ha 1 _ j rfl rfl
  generalize hx:hget h i=x at h0
  generalize hy:hget h j=y at h1
  cases h0 with
  |cells H0=>
  cases h1 with
  |cells H1=>
  obtain⟨a,rfl,ra⟩:=l2_1 H0
  obtain⟨b,c,rfl,rb,rc⟩:=l2_2 H1
  cases ra with
  |one ra=>
  cases rb with
  |one rb=>
  cases rc with
  |one rc=>
  cases ra with
  |co ra=>
  cases rb with
  |co rb=>
  cases rc with
  |co rc=>
  cases co1_int ra
  cases co1_int rb
  exact⟨i,j,c,rfl,by simp at hn;exact hn,hx,hy,rc⟩
theorem den_mk{h:List Ob} {i j:Nat} {n l:Int} {v:AV} {cv:CV} (hij:i ≠ j) (hi:hget h i=.cells 36 [.p (.int .i64 n)]) (hj:hget h j=.cells 44 [.p (.int .i64 l),v]) (hv:Co1 h v cv):Den h [i,j] (prD n l cv):=by
 refine⟨rfl,by simp [hij],fun m d k hd hk=>?_⟩
 match m,hd,hk with
 |0,hd,hk=>
  cases hd;cases hk
  rw[hi]
  exact .cells (.cons (.one (.co (.p _))) .nil)
 |1,hd,hk=>
  cases hd;cases hk
  rw[hj]
  exact .cells (.cons (.one (.co (.p _))) (.cons (.one (.co hv)) .nil))
section
variable {o:Orc} (ho:FreeT o)
include ho
theorem zero57{h0:List Ob} {cs0:List AV} {l:Int} {cv:CV} (h1:hget h0 0=.cells 44 cs0) (H:L2 (Co1 h0) cs0 [.pv (.int .i64 l),cv]) :
  Ct cx o (.fn 57 [.ptr 0 0]) h0 (fun e h1=>e=.ret (.tup [])∧h1=hset h0 0 (.cells 44 [.p (.int .i64 0),.p .nils])):=by
 refine ct57 (ho _ _ _ (by decide)) rfl ?_
 obtain⟨a,b,rfl,_,_⟩:=l2_2 H
 have st:=store_whole (c:=cx) (h:=h0) (i:=0) (ty:=44) (v:=.p (.agg [.int .i64 0,.nils])) s44 h1 rfl rfl rfl
 simp only[sc57r0,sc57,↓rwS,↓rwX,rwZ,rwT,rwG,Nat.reduceEqDiff,Nat.reduceAdd,reduceCtorEq,Nat.reduceLT,b44,st]
 first|exact⟨rfl,rfl⟩|trivial
theorem cs57{h:List Ob} {j:Nat} {v:AV} {l:Int} {cv:CV} (hj:hget h j=.cells 44 [.p (.int .i64 l),v]) (hv:Co1 h v cv) :
  ∃ h1,CS cx o (.fn 57 [.ptr j 0]) h (.ret (.tup [])) h1∧h.length≤h1.length∧hget h1 j=.cells 44 [.p (.int .i64 0),.p .nils] ∧
   (∀ k,k<h.length→k ≠ j→k ∉ ids1 v→hget h1 k=hget h k)∧∀ k,k<h.length→k ≠ j→flat (hget h k)=true→flat (hget h1 k)=true:=by
 obtain⟨e,h1,q1,q2,⟨cs1,q3,q4⟩,q5,q6,q7⟩:=cs_ptr (c:=cx) (o:=o) (f:=57) (ps:=[]) (qps:=[.pv (.int .i64 0),.pv .nils]) (qe:=.vals []) hj (.cons (.p _) (.cons hv .nil)) .nil (fun e qs q=>by cases q) (fun h0 cs0 as0 g1 g2 g3 g4=>by
  cases g4
  obtain⟨e,h',hr,rfl,rfl⟩:=zero57 ho g1 g3
  refine⟨_,_,hr,by rw[hset_length];exact Nat.le_refl _,fun k hk hkl=>?_,⟨[.p (.int .i64 0),.p .nils],?_,.cons (.p _) (.cons (.p _) .nil)⟩,.vals .nil⟩
  ·rw[hget_hset _ _ _ _ (hget_cells_lt g1),if_neg (by omega)];exact g2 k hk hkl
  ·rw[hget_hset _ _ _ _ (hget_cells_lt g1),if_pos rfl])
 cases q5 with
 |vals H=>
 cases H
 obtain⟨a,b,rfl,ra,rb⟩:=l2_2 q4
 cases ra
 cases rb
 refine⟨h1,q1,q2,q3,fun k k1 k2 k3=>q6 k k1 k2 (by simpa [ids1]using k3) (by simp),q7⟩
omit ho in
theorem isc56{h:List Ob} {i j:Nat}:IsC h [i,j] (.fn 56 [.ptr i 0,.func 57 [] [.ptr j 0]]) (.fn 56 [.one (.ptr 0 0),.func 57 [] [.ptr 1 0]]):=
 .fn (.cons (.one (.ptr rfl)) (.cons (.func .nil (.cons (.ptr rfl) .nil)) .nil))
omit ho in
theorem isc56_inv{h:List Ob} {i j:Nat} {cl:Callee'} (H:IsC h [i,j] cl (.fn 56 [.one (.ptr 0 0),.func 57 [] [.ptr 1 0]])):cl=.fn 56 [.ptr i 0,.func 57 [] [.ptr j 0]]:=by
 cases H with
 |fn H=>
  obtain⟨a,b,rfl,ra,rb⟩:=l2_2 H
  cases rb with
  |func r1 r2=>
  cases r1
  obtain⟨c,rfl,r3⟩:=l2_1 r2
  cases ra with
  |one r4=>
  cases r4 with
  |ptr q1=>
  cases r3 with
  |ptr q2=>
  cases q1
  cases q2
  rfl
omit ho in
theorem left_two{cl:Callee'} {h:List Ob} {i j:Nat} {x l:Int} {cv:CV} {e:AEnd} {h1:List Ob} (L:Ai.Left cl h [i,j] (prD x l cv) (.rets []) e h1) :
  e=.ret (.tup [])∧∃ w,hget h1 i=.cells 36 [.p (.int .i64 x)]∧hget h1 j=.cells 44 [.p (.int .i64 l),w]∧Co1 h1 w cv:=by
 obtain⟨_,_,_,σ,_,hD,hE⟩:=L
 obtain⟨i',j',w,hρ,_,g1,g2,g3⟩:=den_two hD
 have hσ:σ=[]:=by
  have:=congrArg List.length hρ
  simp at this
  exact this
 subst hσ
 simp at hρ
 obtain⟨rfl,rfl⟩:=hρ
 refine⟨?_,w,g1,g2,g3⟩
 cases hE with
 |rets H=>cases H;rfl
theorem caught_ret{h:List Ob} {i j:Nat} {n l:Int} {v:AV} {cv:CV} (hij:i ≠ j) (hi:hget h i=.cells 36 [.p (.int .i64 n)]) (hj:hget h j=.cells 44 [.p (.int .i64 l),v]) (hv:Co1 h v cv) :
  ∃ h1 w,CSM cx o .ret .ret (.fn 56 [.ptr i 0,.func 57 [] [.ptr j 0]]) h (.ret (.tup [])) h1∧hget h1 i=.cells 36 [.p (.int .i64 n)]∧hget h1 j=.cells 44 [.p (.int .i64 l),w]∧Co1 h1 w cv:=by
 obtain⟨e,h1,hcs,hL⟩:=cs_denM (c:=cx) (o:=o) (m:=.ret) (m':=.ret) (D':=prD n l cv) (q:=.rets []) rfl rfl (den_mk hij hi hj hv) isc56 (fun t ht _ k hk=>ht k hk) (by show 2+(2+3)≤9999;decide) (by show 0+(2+3)≤9999;decide) (fun h0 ρ0 cl0 hD hC _=>by
  obtain⟨i0,j0,v0,rfl,hne,g0,g1,gv⟩:=den_two hD
  have:=isc56_inv hC
  subst this
  refine ct_scR fn56 sc56_ok rfl rfl rfl sc56_dst ?_
  have e1:bin3 .eql cx 20 (isConst (.tmp 7) || isConst (.const .nilIface)) (.p .nili) (.p .nili)=.w (.p (.bool true)):=by kernel_rfl
  simp only[sc56r0,sc56r1,sc56r2,sc56r3,sc56r4,sc56r5,sc56r6,sc56r7,sc56r8,sc56,↓rwS,rwT,rwG,Nat.reduceEqDiff,Nat.reduceAdd,reduceCtorEq,Nat.reduceLT,e1,endPR_ret,endPR_n]
  exact⟨⟨Nat.le_refl _,fun _ _ f=>f,[],by simp,by simpa using hD,.rets .nil,by simp⟩,trivial⟩)
 obtain⟨rfl,w,a1,a2,a3⟩:=left_two hL
 exact⟨h1,w,hcs,a1,a2,a3⟩
theorem caught_pan{h:List Ob} {i j:Nat} {n l x:Int} {v:AV} {cv:CV} (hij:i ≠ j) (hi:hget h i=.cells 36 [.p (.int .i64 n)]) (hj:hget h j=.cells 44 [.p (.int .i64 l),v]) (hv:Co1 h v cv) :
  ∃ h1,CSM cx o (.pan (.p (failP x)) false) (.pan (.p (failP x)) true) (.fn 56 [.ptr i 0,.func 57 [] [.ptr j 0]]) h (.ret (.tup [])) h1∧hget h1 i=.cells 36 [.p (.int .i64 x)]∧hget h1 j=.cells 44 [.p (.int .i64 0),.p .nils]:=by
 obtain⟨e,h1,hcs,hL⟩:=cs_denM (c:=cx) (o:=o) (m:=.pan (.p (failP x)) false) (m':=.pan (.p (failP x)) true) (D':=prD x 0 (.pv .nils)) (q:=.rets []) rfl rfl (den_mk hij hi hj hv) isc56 (fun t ht _ k hk=>ht k hk) (by show 2+(2+3)≤9999;decide) (by show 0+(2+3)≤9999;decide) (fun h0 ρ0 cl0 hD hC _=>by
  obtain⟨i0,j0,v0,rfl,hne,g0,g1,gv⟩:=den_two hD
  have:=isc56_inv hC
  subst this
  refine ct_scR fn56 sc56_ok rfl rfl rfl sc56_dst ?_
  have e1:∀ b,bin3 .eql cx 20 b (.p (failP x)) (.p .nili)=.w (.p (.bool false)):=fun b=>by cases b<;>kernel_rfl
  have e2:typeAssert? cx 235 true (.p (failP x))=some (.tup [.p (.agg [.int .i64 x]),.p (.bool true)]):=by kernel_rfl
  have st:store? cx (h0++[.cells 235 [.p (.int .i64 0)]]) 235 (.ptr h0.length 0) (.p (.agg [.int .i64 x]))=.ws undefA h0.length (.cells 235 [.p (.int .i64 x)]):=store_whole s235 (hget_new _ _) rfl rfl rfl
  have fa:fieldAddr? cx 235 (.ptr h0.length 0) 0=some (.ptr h0.length 0):=fieldAddr_ptr (m:=0) f235_0 s36
  have li:=hget_cells_lt g0
  have lj:=hget_cells_lt g1
  obtain⟨M1,c57,k1,k2,k3,k4⟩:=cs57 ho (h:=h0++[.cells 235 [.p (.int .i64 x)]]) (j:=j0) (v:=v0) (l:=l) (cv:=cv) (by rw[hget_app _ _ _ lj];exact g1) (gv.ext _)
  rw[List.length_append,List.length_singleton]at k1 k3 k4
  have idl:∀ k∈ids1 v0,k<h0.length∧flat (hget h0 k)=true:=fun k hk=>⟨ids1_lt gv k hk,gv.flat k hk⟩
  have m0:hget M1 h0.length=.cells 235 [.p (.int .i64 x)]:=by
   rw[k3 h0.length (by omega) (by omega) (fun q=>by have:=(idl _ q).1;omega)];exact hget_new _ _
  have m1:hget M1 i0=.cells 36 [.p (.int .i64 n)]:=by
   rw[k3 i0 (by omega) hne (fun q=>by have:=(idl _ q).2;rw[g0]at this;cases this),hget_app _ _ _ li];exact g0
  have ld:load? cx M1 36 (.ptr h0.length 0)=some (.p (.int .i64 x)):=load_one a36 m0 rfl
  have st2:store? cx M1 36 (.ptr i0 0) (.p (.int .i64 x))=.ws undefA i0 (.cells 36 [.p (.int .i64 x)]):=store_one (cs:=[.p (.int .i64 n)]) s36 m1 rfl (by simp)
  simp only[sc56r0,sc56r1,sc56r2,sc56r3,sc56r4,sc56r5,sc56r6,sc56r7,sc56r8,sc56,↓rwS,rwT,rwG,Nat.reduceEqDiff,Nat.reduceAdd,reduceCtorEq,Nat.reduceLT,e1,e2,extractW,aget_eq',z235,PV.cells,List.map_cons,List.map_nil,List.getElem?_cons_zero,List.getElem?_cons_succ,st,hset_end,target_cap,callW_ret ext57 c57,fa,ld,st2,endPR_ret,endPR_n]
  have lM:i0<M1.length:=hget_cells_lt m1
  refine⟨⟨by rw[hset_length];omega,fun k hk hf=>?_,[],by simp,?_,.rets .nil,by simp⟩,trivial⟩
  ·have n1:k ≠ j0:=fun q=>by subst q;rw[g1]at hf;cases hf
   have n2:k ≠ i0:=fun q=>by subst q;rw[g0]at hf;cases hf
   rw[hget_hset _ _ _ _ lM,if_neg n2]
   exact k4 k (by omega) n1 (by rw[hget_app _ _ _ hk];exact hf)
  ·rw[List.append_nil]
   exact den_mk hne (by rw[hget_hset _ _ _ _ lM,if_pos rfl]) (by rw[hget_hset _ _ _ _ lM,if_neg (Ne.symm hne)];exact k2) (.p _))
 obtain⟨rfl,w,a1,a2,a3⟩:=left_two hL
 cases a3
 exact⟨h1,hcs,a1,a2⟩
end
end Go.Proofs
namespace Go.Ai
def endDG(c:Ctx) (o:Orc) (rs:List ResultVar) (P:AEnd→List Ob→Prop):Post:=fun e t h d r=>
 r=none∧∃ g ar,d=[.fn g ar]∧(match e with
 |.exit _=>False
 |.pan v=>∃ h1,CSM c o (.pan v false) (.pan v true) (.fn g ar) h (.ret (.tup [])) h1∧∃ vs,results? c h1 t rs=some vs∧P (.ret (vals vs)) h1
 |_=>∃ h1,CSM c o .ret .ret (.fn g ar) h (.ret (.tup [])) h1∧∃ vs,results? c h1 t rs=some vs∧P (.ret (vals vs)) h1)
theorem leave_defG{c call rs t g ar h m h1 m' vs} (hd:∀ F:CR→Option CR,inner call (.fn g ar) h (some m) F none=F (.mk (.ret (.tup [])) h1 (some m'))) (hs:settleR m'=.ret) (hr:results? c h1 t rs=some vs) :
  leave c call rs t none [.fn g ar] m h=some (.mk (.ret (vals vs)) h1 none):=by
 show inner call (.fn g ar) h (some m) (fun x=>match x with
    |.mk e h r'=>(match e,r' with
     |.ret _,some m=>leave c call rs t none [] (settleR m) h
     |_,_=>none)) none=_
 rw[hd]
 simp only[hs]
 exact leave_nilR hr
theorem ct_defG{c:Ctx} {o:Orc} {f:FuncId} {fn:Func} {sc:SC} {n:Nat} {rs:List ResultVar} {args h P} (hf:c.fn f=some fn) (hb:fn.body.map tr=some sc) (hn:fn.ntmps=n) (hr:fn.results.toList=rs)
  (ho:o f args h=none) (ha:Nat.ble args.length n=true) (hok:okS n sc=true)
  (hw:xC c o none sc (endDG c o rs P) (argT args 0 .lf) h [] none):Ct c o (.fn f args) h P:=by
 subst hn;subst hr
 cases hb':fn.body with
 |none=>rw[hb']at hb;cases hb
 |some b=>
  rw[hb']at hb
  have:tr b=sc:=Option.some.inj hb
  subst this
  obtain⟨out,⟨k0,h0⟩,hq⟩:=xC_ok (fn:=f) b _ hok _ _ _ _ hw
  have st:∀ k,callN c o (k+1) (.fn f args) h none=callEnd c (callN c o k) fn (exec ⟨c,callN c o k,f,fn.ntmps,none⟩ k b (argT args 0 .lf) h [] none):=by
   intro k
   show callFn c o k (callN c o k) f args h none=_
   unfold callFn
   simp only[ho,hf]
   unfold callBody
   simp only[hb',ha,cond,argTm_eq]
  obtain⟨e,t',h',d',r'⟩:=out
  obtain⟨hr0,g,ar,hd,hq⟩:=hq
  subst hr0;subst hd
  cases e with
  |exit i=>exact hq.elim
  |pan v=>
   obtain⟨h1,⟨k1,hdr⟩,vs,hvs,hP⟩:=hq
   refine⟨.ret (vals vs),h1,⟨max k0 k1+1,fun k hk=>?_⟩,hP⟩
   obtain⟨k,rfl⟩:∃ i,k=i+1:=⟨k-1,by omega⟩
   rw[st,h0 k (by omega) k (by omega)]
   exact leave_defG (hdr k (by omega)) rfl hvs
  |n=>
   obtain⟨h1,⟨k1,hdr⟩,vs,hvs,hP⟩:=hq
   refine⟨.ret (vals vs),h1,⟨max k0 k1+1,fun k hk=>?_⟩,hP⟩
   obtain⟨k,rfl⟩:∃ i,k=i+1:=⟨k-1,by omega⟩
   rw[st,h0 k (by omega) k (by omega)]
   exact leave_defG (hdr k (by omega)) rfl hvs
  |ret=>
   obtain⟨h1,⟨k1,hdr⟩,vs,hvs,hP⟩:=hq
   refine⟨.ret (vals vs),h1,⟨max k0 k1+1,fun k hk=>?_⟩,hP⟩
   obtain⟨k,rfl⟩:∃ i,k=i+1:=⟨k-1,by omega⟩
   rw[st,h0 k (by omega) k (by omega)]
   exact leave_defG (hdr k (by omega)) rfl hvs
end Go.Ai
namespace Go.Proofs
open Go Go.Ai
open Classical in
noncomputable def paR(s:List UInt8):Option (Int×List Itm):=pC VP s
def PaP(s:List UInt8) (e:AEnd) (h1:List Ob):Prop:=∃ X,match paR s with
 |some (l,xs)=>e=.ret (.tup [X,.p (.int .i64 0)])∧ConC h1 X l xs
 |none=>e=.ret (.tup [X,.p (.int .i64 2)])∧ConC h1 X 0 []
section
variable {o:Orc} (ho:FreeT o)
include ho
theorem ct20D{args h P} (h1:o 20 args h=none) (ha:Nat.ble args.length 43=true) (hw:xC cx o none sc20 (endDG cx o [.cell 2 44,.cell 3 36] P) (argT args 0 .lf) h [] none):Ct cx o (.fn 20 args) h P:=
 ct_defG fn20 sc20_ok rfl rfl h1 ha sc20_dst hw
theorem pa_pan{s:List UInt8} {M:List Ob} {t:Tm} {l:Int} {v:AV} {cv:CV} (g0:hget M 0=.cells 44 [.p (.int .i64 l),v]) (g1:hget M 1=.cells 36 [.p (.int .i64 0)]) (hv:Co1 M v cv) (t2:t.get 2=.ptr 0 0) (t3:t.get 3=.ptr 1 0) (hp:paR s=none) :
  endDG cx o [.cell 2 44,.cell 3 36] (PaP s) (.pan (.p (failP 2))) t M [.fn 56 [.ptr 1 0,.func 57 [] [.ptr 0 0]]] none:=by
 obtain⟨h1,q1,q2,q3⟩:=caught_pan ho (i:=1) (j:=0) (x:=2) (by decide) g1 g0 hv
 have e1:load? cx h1 44 (.ptr 0 0)=some (mkAgg [.p (.int .i64 0),.p .nils]):=load_whole a44 s44 q3 rfl
 have e2:load? cx h1 36 (.ptr 1 0)=some (.p (.int .i64 2)):=load_one a36 q2 rfl
 refine⟨rfl,_,_,rfl,h1,q1,[mkAgg [.p (.int .i64 0),.p .nils],.p (.int .i64 2)],?_,?_⟩
 ·simp only[↓rwA,rwB,rwG,Nat.reduceEqDiff,Nat.reduceAdd,reduceCtorEq,Nat.reduceLT,t2,t3,e1,e2]
 ·unfold PaP
  rw[hp]
  exact⟨_,rfl,con_mk (.p .nils) .nil⟩
theorem pa_ret{s:List UInt8} {M:List Ob} {t:Tm} {l:Int} {v:AV} {cv:CV} {xs:List Itm} (g0:hget M 0=.cells 44 [.p (.int .i64 l),v]) (g1:hget M 1=.cells 36 [.p (.int .i64 0)]) (hv:Co1 M v cv) (hs:IsS 19 cv (xs.map Itm.V)) (t2:t.get 2=.ptr 0 0) (t3:t.get 3=.ptr 1 0) (hp:paR s=some (l,xs)) :
  endDG cx o [.cell 2 44,.cell 3 36] (PaP s) .ret t M [.fn 56 [.ptr 1 0,.func 57 [] [.ptr 0 0]]] none:=by
 obtain⟨h1,w,q1,q2,q3,q4⟩:=caught_ret ho (i:=1) (j:=0) (by decide) g1 g0 hv
 have e1:load? cx h1 44 (.ptr 0 0)=some (mkAgg [.p (.int .i64 l),w]):=load_whole a44 s44 q3 rfl
 have e2:load? cx h1 36 (.ptr 1 0)=some (.p (.int .i64 0)):=load_one a36 q2 rfl
 refine⟨rfl,_,_,rfl,h1,q1,[mkAgg [.p (.int .i64 l),w],.p (.int .i64 0)],?_,?_⟩
 ·simp only[↓rwA,rwB,rwG,Nat.reduceEqDiff,Nat.reduceAdd,reduceCtorEq,Nat.reduceLT,t2,t3,e1,e2]
 ·unfold PaP
  rw[hp]
  exact⟨_,rfl,con_mk q4 hs⟩
theorem c59_t{h:List Ob} {i:Nat} {l:Int} (h0:0≤l) {s:List UInt8} {a b:Nat} {x:Itm} (hi:hget h i=rdO s a) (ha:a≤s.length) (hl:s.length<100000000) (hp:pIt l s a=some (x,b)) {dst t d r k Q} :
  callW cx o dst t h d r (some (.fn 59 [.ptr i 0,.p (.int .i64 l)])) k Q=k (put dst (.p x.V) t) (hset h i (rdO s b)) d r:=
 callW_ret ext59 (cs_cellV (cs:=rdC s a) (cs':=rdC s b) hi (.inl ⟨_,rfl⟩) (by
  have:=item59 ho h0 ha hl
  rw[hp]at this
  exact this))
theorem c59_f{h:List Ob} {i:Nat} {l:Int} (h0:0≤l) {s:List UInt8} {a:Nat} (hi:hget h i=rdO s a) (ha:a≤s.length) (hl:s.length<100000000) (hp:pIt l s a=none) :
  ∃ b,b≤s.length∧∀ {dst t d r k Q},callW cx o dst t h d r (some (.fn 59 [.ptr i 0,.p (.int .i64 l)])) k Q=Q (.pan (.p (failP 2))) t (hset h i (rdO s b)) d r:=by
 have:=item59 ho h0 ha hl
 rw[hp]at this
 obtain⟨e,h',hr,rfl,b,ext,hb,rfl⟩:=this
 exact⟨b,hb,fun {dst t d r k Q}=>callW_pan ext59 (cs_cellV (cs:=rdC s a) (cs':=rdC s b) hi (.inr ⟨_,rfl⟩) ⟨_,_,hr,rfl,ext,rfl⟩)⟩
end
theorem opD_mkfunc{c:Ctx} {t:Tm} {h:List Ob} {f:FuncId} {x:Operand}:opD (.makeFunc (.func f) #[] #[x]) c t h=.w (.func f [] [ev c t x]):=(rfl)
theorem z44:zero? cx 44=some (.agg [.int .i64 0,.nils]):=by kernel_rfl
theorem b122(s:List UInt8):build? cx 122 [(0,.p (.str s))]=some (.p (.agg [.str s,.int .i64 0])):=by kernel_rfl
theorem b124(s:List UInt8):build? cx 124 [(0,.p (.agg [.str s,.int .i64 0]))]=some (.p (.agg [.str s,.int .i64 0])):=by kernel_rfl
theorem con_cells'{h:List Ob} {v:AV} {cv:CV} {l:Int} (H:Co1 h v cv):(mkAgg [.p (.int .i64 l),v]).cells?=some [.p (.int .i64 l),v]:=by
 cases H<;>rfl
def pLa(l:Int) (s:List UInt8):Nat→Nat→Option (List Itm×Nat)
 |0,a=>some ([],a)
 |n+1,a=>(match pIt l s a with
  |none=>none
  |some (x,b)=>(match pLa l s n b with
   |none=>none
   |some (xs,e)=>some (x::xs,e)))
theorem pIt_inv{l:Int} {s:List UInt8} {a b:Nat} {x:Itm} (ha:a≤s.length) (h:pIt l s a=some (x,b)):b≤s.length∧pI l (s.drop a)=some (x,s.drop b)∧IOk l x:=by
 unfold pIt at h
 split at h
 ·rename_i y r hp
  simp only[Option.some.injEq,Prod.mk.injEq]at h
  obtain⟨rfl,rfl⟩:=h
  obtain⟨h1,h2⟩:=pI_inv hp
  refine⟨by omega,?_,h2⟩
  have hr:r=s.drop (s.length-r.length):=by
   have h3:s.length-a=(itB l y).length+r.length:=by
    have:=congrArg List.length h1
    simpa using this
   have h4:s.drop (s.length-r.length)=(s.drop a).drop ((itB l y).length):=by
    rw[List.drop_drop];congr 1;omega
   rw[h4,h1,List.drop_left' rfl]
  rw[← hr];exact hp
 ·cases h
theorem pIt_none{l:Int} {s:List UInt8} {a:Nat} (h:pIt l s a=none):pI l (s.drop a)=none:=by
 unfold pIt at h
 split at h
 ·cases h
 ·assumption
theorem pLa_pL{l:Int} {s:List UInt8}:∀ (n a:Nat),a≤s.length→match pLa l s n a with
  |some (xs,e)=>pL l n (s.drop a)=some (xs,s.drop e)∧e≤s.length
  |none=>pL l n (s.drop a)=none:=by
 intro n
 induction n with
 |zero=>intro a ha;exact⟨rfl,ha⟩
 |succ n ih=>
  intro a ha
  unfold pLa pL
  cases hp:pIt l s a with
  |none=>simp only[pIt_none hp]
  |some z=>
   obtain⟨x,b⟩:=z
   obtain⟨h1,h2,_⟩:=pIt_inv ha hp
   have:=ih b h1
   simp only[h2]
   cases hq:pLa l s n b with
   |none=>rw[hq]at this;simp only at this;simp only[this]
   |some w=>
    obtain⟨xs,e⟩:=w
    rw[hq]at this
    simp only at this
    simp only[this.1]
    exact⟨trivial,this.2⟩
open Classical in
theorem paR_eq{s:List UInt8} (h3:3≤s.length):paR s=match pLa (nm (s.take 1) 0:Nat) s (nm ((s.drop 1).take 2) 0) 3 with
  |none=>none
  |some (xs,e)=>if e=s.length∧VP (nm (s.take 1) 0:Nat) xs then some ((nm (s.take 1) 0:Nat),xs)else none:=by
 unfold paR pC
 have t1:=tk_at (s:=s) (b:=0) (n:=1) (by omega)
 rw[List.drop_zero,Nat.zero_add]at t1
 rw[t1]
 simp only
 rw[tk_at (b:=1) (n:=2) (by omega)]
 simp only
 have:=pLa_pL (l:=(nm (s.take 1) 0:Nat)) (s:=s) (nm ((s.drop 1).take 2) 0) 3 h3
 cases hq:pLa (nm (s.take 1) 0:Nat) s (nm ((s.drop 1).take 2) 0) 3 with
 |none=>rw[hq]at this;simp only at this;simp only[this]
 |some w=>
  obtain⟨xs,e⟩:=w
  rw[hq]at this
  simp only at this
  simp only[this.1]
  have he:s.drop e=[]↔e=s.length:=by
   rw[List.drop_eq_nil_iff]
   have:=this.2
   omega
  simp only[he]
theorem paR_short{s:List UInt8} (h3:s.length<3):paR s=none:=by
 unfold paR pC
 by_cases h1:1≤s.length
 ·have t1:=tk_at (s:=s) (b:=0) (n:=1) (by omega)
  rw[List.drop_zero,Nat.zero_add]at t1
  rw[t1]
  simp only
  rw[tk_no (by omega) h1]
 ·have t1:=tk_no (s:=s) (b:=0) (n:=1) (by omega) (by omega)
  rw[List.drop_zero]at t1
  rw[t1]
section
variable {o:Orc} (ho:FreeT o)
include ho
set_option maxHeartbeats 4000000 in
theorem parse20{s:List UInt8} (hl:s.length<100000):Ct cx o (.fn 20 [.p (.str s)]) [] (PaP s):=by
 refine ct20D ho (ho _ _ _ (by decide)) rfl ?_
 have zc4:(PV.agg [.int .i64 0,.nils]).cells.map AV.p=[.p (.int .i64 0),.p .nils]:=rfl
 have z36c:(PV.int .i64 0).cells.map AV.p=[.p (.int .i64 0)]:=rfl
 have bx:∀ hh:List Ob,boxW hh 124 (.p (.agg [.str s,.int .i64 0]))=.wn (.ptr hh.length 0) (rdO s 0):=fun hh=>rfl
 have H2:∀ {x y z o':Ob},hset [x,y,z] 2 o'=[x,y,o']:=fun {x y z o'}=>rfl
 have H0:∀ {x y z o':Ob},hset [x,y,z] 0 o'=[o',y,z]:=fun {x y z o'}=>rfl
 have st0:∀ (a:Nat) (n:Int),store? cx [.cells 44 [.p (.int .i64 0),.p .nils],.cells 36 [.p (.int .i64 0)],rdO s a] 3 (.ptr 0 0) (.p (.int .i64 n))=.ws undefA 0 (.cells 44 [.p (.int .i64 n),.p .nils]):=fun a n=>store_one (cs:=[.p (.int .i64 0),.p .nils]) s3 rfl rfl (by simp)
 have pr:∀ (M:List Ob) (t:Tm) (l:Int) (v:AV) (cv:CV),hget M 0=.cells 44 [.p (.int .i64 l),v]→hget M 1=.cells 36 [.p (.int .i64 0)]→Co1 M v cv→t.get 2=.ptr 0 0→t.get 3=.ptr 1 0→paR s=none →
   endDG cx o [.cell 2 44,.cell 3 36] (PaP s) (.pan (.p (failP 2))) t M [.fn 56 [.ptr 1 0,.func 57 [] [.ptr 0 0]]] none:=fun M t l v cv a1 a2 a3 a4 a5 a6=>pa_pan ho a1 a2 a3 a4 a5 a6
 by_cases c1:1≤s.length
 case neg=>
  have p1:=fun dst t d r k Q=>c58_1f ho (h:=[.cells 44 [.p (.int .i64 0),.p .nils],.cells 36 [.p (.int .i64 0)],rdO s 0]) (i:=2) (s:=s) (a:=0) rfl (by omega) (by omega) (by omega) (dst:=dst) (t:=t) (d:=d) (r:=r) (k:=k) (Q:=Q)
  simp only[sc20r0,sc20r1,sc20r2,sc20r3,sc20r4,sc20r5,sc20r6,sc20d6_x,sc20r7,sc20r9,sc20r10,sc20,↓rwS,↓rwX,rwZ,rwT,rwG,Nat.reduceEqDiff,Nat.reduceAdd,reduceCtorEq,Nat.reduceLT,z44,z36,zc4,z36c,opD_mkfunc,b122,b124,bx,List.nil_append,List.cons_append,List.length_cons,List.length_nil,p1,H2]
  refine pr _ _ 0 (.p .nils) _ rfl rfl (.p _) ?_ ?_ (paR_short (by omega))<;>simp only[Tm.get_set,Nat.reduceEqDiff,if_true,if_false]
 have p1:=fun dst t d r k Q=>c58_1t ho (h:=[.cells 44 [.p (.int .i64 0),.p .nils],.cells 36 [.p (.int .i64 0)],rdO s 0]) (i:=2) (s:=s) (a:=0) rfl (by omega) (by omega) (dst:=dst) (t:=t) (d:=d) (r:=r) (k:=k) (Q:=Q)
 rw[List.drop_zero,Nat.zero_add]at p1
 by_cases c3:3≤s.length
 case neg=>
  have p2:=fun l dst t d r k Q=>c58_2f ho (h:=[.cells 44 [.p (.int .i64 l),.p .nils],.cells 36 [.p (.int .i64 0)],rdO s 1]) (i:=2) (s:=s) (a:=1) rfl (by omega) (by omega) (by omega) (dst:=dst) (t:=t) (d:=d) (r:=r) (k:=k) (Q:=Q)
  simp only[sc20r0,sc20r1,sc20r2,sc20r3,sc20r4,sc20r5,sc20r6,sc20d6_x,sc20r7,sc20r9,sc20r10,sc20,↓rwS,↓rwX,rwZ,rwT,rwG,Nat.reduceEqDiff,Nat.reduceAdd,reduceCtorEq,Nat.reduceLT,z44,z36,zc4,z36c,opD_mkfunc,b122,b124,bx,List.nil_append,List.cons_append,List.length_cons,List.length_nil,p1,H2,fp44_0,st0,H0,p2]
  refine pr _ _ _ (.p .nils) _ rfl rfl (.p _) ?_ ?_ (paR_short (by omega))<;>simp only[Tm.get_set,Nat.reduceEqDiff,if_true,if_false]
 have p2:=fun l dst t d r k Q=>c58_2t ho (h:=[.cells 44 [.p (.int .i64 l),.p .nils],.cells 36 [.p (.int .i64 0)],rdO s 1]) (i:=2) (s:=s) (a:=1) rfl (by omega) (by omega) (dst:=dst) (t:=t) (d:=d) (r:=r) (k:=k) (Q:=Q)
 simp only[sc20r0,sc20r1,sc20r2,sc20r3,sc20r4,sc20r5,sc20r6,sc20d6_x,sc20r7,sc20r9,sc20r10,sc20,↓rwS,↓rwX,rwZ,rwT,rwG,Nat.reduceEqDiff,Nat.reduceAdd,reduceCtorEq,Nat.reduceLT,z44,z36,zc4,z36c,opD_mkfunc,b122,b124,bx,List.nil_append,List.cons_append,List.length_cons,List.length_nil,p1,H2,fp44_0,st0,H0,p2]
 have hpa:=paR_eq c3
 generalize hL:nm (s.take 1) 0=L at *
 generalize hN:nm ((s.drop 1).take 2) 0=n at *
 have hn:n<65536:=by
  have:=nm_lt ((s.drop 1).take 2) 0
  rw[hN]at this
  have h2:((s.drop 1).take 2).length=2:=by simp;omega
  rw[h2]at this
  omega
 have kOkx:∀ x:Itm,IOk (L:Int) x→x.ok:=fun x q=>q.sum
 refine xC_loop (fun m t h' d r => ∃ (k a : Nat) (b : AV) (acc : List Itm), m = k ∧ a ≤ s.length ∧ acc.length + k = n ∧ (∀ x ∈ acc, IOk (L : Int) x) ∧
   (pLa (L:Int) s n 3=match pLa (L:Int) s k a with|some (xs,e)=>some (acc++xs,e)|none=>none) ∧
   3≤h'.length∧hget h' 0=.cells 44 [.p (.int .i64 (L:Int)),b]∧hget h' 1=.cells 36 [.p (.int .i64 0)]∧hget h' 2=rdO s a∧Own h' 46 19 b (acc.map Itm.V)∧(∀ j∈ids1 b,3≤j) ∧
   d=[.fn 56 [.ptr 1 0,.func 57 [] [.ptr 0 0]]]∧r=none∧t.get 0=.p (.str s)∧t.get 2=.ptr 0 0∧t.get 3=.ptr 1 0∧t.get 4=.ptr 2 0∧t.get 5=.p (.int .i64 (k:Int))) n ?_ ?_
 ·refine⟨n,3,.p .nils,[],rfl,c3,by simp,by simp,?_,by simp,rfl,rfl,rfl,.nil,by simp [ids1],rfl,rfl,?_⟩
  ·cases pLa (L:Int) s n 3<;>rfl
  ·simp only[↓rwA,rwB,rwG,Nat.reduceEqDiff,Nat.reduceAdd,reduceCtorEq,Nat.reduceLT,true_and]
   all_goals first|rfl|exact trivial|(simp;done)
 ·clear p1 p2 st0 H0 H2
  rintro k t h' d r ⟨_,a,b,acc,rfl,ha,hak,hacc,hsp,h3,g0,g1,g2,hO,hids,rfl,rfl,t0,t2,t3,t4,t5⟩
  obtain⟨cv,hcv,hcs⟩:=own_co hO
  have l0:=con_l0 g0
  have l1:=con_l1 g0
  have N0:∀ a':Nat,hget (hset h' 2 (rdO s a')) 0=.cells 44 [.p (.int .i64 (L:Int)),b]:=fun a'=>by rw[hget_hset _ _ _ _ (by omega),if_neg (by decide)];exact g0
  have N1:∀ a':Nat,hget (hset h' 2 (rdO s a')) 1=.cells 36 [.p (.int .i64 0)]:=fun a'=>by rw[hget_hset _ _ _ _ (by omega),if_neg (by decide)];exact g1
  have N2:∀ a':Nat,hget (hset h' 2 (rdO s a')) 2=rdO s a':=fun a'=>by rw[hget_hset _ _ _ _ (by omega),if_pos rfl]
  have nf2:flat (hget h' 2)=false:=by rw[g2];rfl
  have Nv:∀ a':Nat,Co1 (hset h' 2 (rdO s a')) b cv:=fun a'=>hcv.hset nf2
  by_cases hk:0<k
  ·obtain⟨k,rfl⟩:∃ i,k=i+1:=⟨k-1,by omega⟩
   have e1:decide (0<((k+1:Nat):Int))=true:=decide_eq_true (by omega)
   cases hp:pIt (L:Int) s a with
   |none=>
    obtain⟨b',hb',p3⟩:=c59_f ho (show(0:Int)≤(L:Int) by omega) g2 ha (by omega) hp
    have hpn:paR s=none:=by
     rw[hpa,hsp]
     simp only[pLa,hp]
    simp only[sc20r0,sc20r1,sc20r2,sc20r3,sc20r4,sc20r5,sc20r6,sc20d6_x,sc20r7,sc20l8,sc20r9,sc20r10,sc20,↓rwC,rwD,rwI,Nat.reduceSub,Nat.reduceLeDiff,↓rwS,↓rwX,rwZ,rwT,rwG,Nat.reduceEqDiff,Nat.reduceAdd,reduceCtorEq,Nat.reduceLT,t0,t2,t3,t4,t5,e1,fp44_0,fp44_1,l0,l1,p3,drawE_panS,skip_nil,skip_Z,skip_L,skip_A,nin_nil,nin_cons,ne_eq,not_false_eq_true,and_true,true_and]
    refine pr _ _ (L:Int) b cv (N0 b') (N1 b') (Nv b') ?_ ?_ hpn<;>simp only[Tm.get_set,Nat.reduceEqDiff,if_true,if_false,t2,t3]
   |some z=>
    obtain⟨x,a'⟩:=z
    obtain⟨ha',_,hx⟩:=pIt_inv ha hp
    have p3:=fun dst t d r k Q=>c59_t ho (show(0:Int)≤(L:Int) by omega) g2 ha (by omega) hp (dst:=dst) (t:=t) (d:=d) (r:=r) (k:=k) (Q:=Q)
    have q0:=con_l1 (N0 a')
    have hNl:3≤(hset h' 2 (rdO s a')).length:=by rw[hset_length];exact h3
    have hO':Own (hset h' 2 (rdO s a')) 46 19 b (acc.map Itm.V):=by
     generalize hz:acc.map Itm.V=zs at hO
     cases hO with
     |nil=>exact .nil
     |row hr=>
      have:=hids _ (List.mem_singleton.2 rfl)
      exact .row (by rw[hget_hset _ _ _ _ (by omega),if_neg (by omega)];exact hr)
    generalize hMM:hset h' 2 (rdO s a')=M at *
    have M0:=N0 a'
    have M1:=N1 a'
    have M2:=N2 a'
    rw[hMM]at M0 M1 M2
    have q1:=con_l1 ((hget_app M (.row 46 19 [x.V] true 0) 0 (by omega)).trans M0)
    obtain⟨b1,h1,a1,a2,a3,a4,a5⟩:=items_app (o:=o) (x:=x) hO' (by omega)
    have z0:hget h1 0=.cells 44 [.p (.int .i64 (L:Int)),b]:=by rw[a3 0 (by omega) (fun q=>by have:=hids _ q;omega)];exact M0
    have z1:hget h1 1=.cells 36 [.p (.int .i64 0)]:=by rw[a3 1 (by omega) (fun q=>by have:=hids _ q;omega)];exact M1
    have z2:hget h1 2=rdO s a':=by rw[a3 2 (by omega) (fun q=>by have:=hids _ q;omega)];exact M2
    obtain⟨cv1,hcv1,hcs1⟩:=own_co a1
    have ob:b1.cells?=some [b1]:=hcv1.one_cell hcs1
    have st:=store_cell (c:=cx) (off:=1) s42 z0 ob (show 1<2 by decide)
    have w1:IntKind.wrap .i64 (((k+1:Nat):Int)-1)=(k:Int):=by rw[wrap64_id (by omega) (by omega)];omega
    simp only[sc20r0,sc20r1,sc20r2,sc20r3,sc20r4,sc20r5,sc20r6,sc20d6_x,sc20r7,sc20l8,sc20r9,sc20r10,sc20,↓rwC,rwD,rwI,Nat.reduceSub,Nat.reduceLeDiff,↓rwS,↓rwX,rwZ,rwT,rwG,Nat.reduceEqDiff,Nat.reduceAdd,reduceCtorEq,Nat.reduceLT,t0,t2,t3,t4,t5,e1,fp44_0,fp44_1,l0,l1,p3,hMM,q0,q1,bs46 (kOkx x hx),appW_sl u42 u42,a5,st,w1,true_and]
    refine⟨k,by omega,k,a',b1,acc++[x],rfl,ha',by simp;omega,?_,?_,by rw[hset_length];omega,?_,?_,?_,?_,?_,?_⟩
    ·intro y hy
     rcases List.mem_append.1 hy with q|q
     ·exact hacc y q
     ·rw[List.mem_singleton.1 q];exact hx
    ·rw[hsp]
     simp only[pLa,hp]
     cases pLa (L:Int) s k a' with
     |none=>rfl
     |some w=>obtain⟨xs,e⟩:=w;simp
    ·rw[hget_hset _ _ _ _ (by omega),if_pos rfl];rfl
    ·rw[hget_hset _ _ _ _ (by omega),if_neg (by decide)];exact z1
    ·rw[hget_hset _ _ _ _ (by omega),if_neg (by decide)];exact z2
    ·generalize hz:(acc++[x]).map Itm.V=zs at a1
     cases a1 with
     |nil=>exact .nil
     | @row i1 _ _ _ hr=>
      have:3≤i1:=by
       rcases a4 i1 (List.mem_singleton.2 rfl)with q|q
       ·exact hids _ q
       ·omega
      exact .row (by rw[hget_hset _ _ _ _ (by omega),if_neg (by omega)];exact hr)
    ·intro j hj
     rcases a4 j hj with q|q
     ·exact hids j q
     ·omega
    ·first|rfl|exact trivial|exact⟨rfl,rfl⟩|(simp;done)
  ·obtain rfl:k=0:=by omega
   have e1:decide (0<((0:Nat):Int))=false:=by simp
   have hsp':pLa (L:Int) s n 3=some (acc,a):=by rw[hsp];simp [pLa]
   rw[hsp']at hpa
   simp only at hpa
   have r0:=rd_1 g2
   have lw:load? cx h' 44 (.ptr 0 0)=some (mkAgg [.p (.int .i64 (L:Int)),b]):=load_whole a44 s44 g0 rfl
   by_cases hae:a=s.length
   ·have e2:decide ((a:Int)=(s.length:Int))=true:=decide_eq_true (by omega)
    have c52:=cs52 ho (con_mk (l:=(L:Int)) hcv hcs) (fun x hx=>(hacc x hx).sum) (by omega) (fun x hx=>by have:=(hacc x hx).key;omega)
    cases hvb:vB (L:Int) acc with
    |false=>
     rw[hvb]at c52
     have hnv:¬VP (L:Int) acc:=fun q=>by rw[← vB_t q]at hvb;cases hvb
     rw[if_neg (fun q=>hnv q.2)]at hpa
     simp only[sc20r0,sc20r1,sc20r2,sc20r3,sc20r4,sc20r5,sc20r6,sc20d6_x,sc20r7,sc20l8,sc20r9,sc20r10,sc20,↓rwS,↓rwX,rwZ,rwT,rwG,Nat.reduceEqDiff,Nat.reduceAdd,reduceCtorEq,Nat.reduceLT,t0,t2,t3,t4,t5,e1,opD_nilCheck,nilW_ptr,fp124_0,fp122_1,r0,e2,lw,callW_ret ext52 c52,c60_f ho]
     refine pr _ _ (L:Int) b cv g0 g1 hcv ?_ ?_ hpa<;>simp only[Tm.get_set,Nat.reduceEqDiff,if_true,if_false,t2,t3]
    |true=>
     rw[hvb]at c52
     rw[if_pos ⟨hae,vb_vp ho hvb⟩]at hpa
     have lv:=hget_cells_lt g0
     have stw:store? cx h' 44 (.ptr 0 0) (mkAgg [.p (.int .i64 (L:Int)),b])=.ws undefA 0 (.cells 44 [.p (.int .i64 (L:Int)),b]):=store_whole s44 g0 (con_cells' hcv) rfl rfl
     have hsame:hset h' 0 (.cells 44 [.p (.int .i64 (L:Int)),b])=h':=by rw[← g0];exact hset_same h' 0 lv
     have ste:store? cx h' 36 (.ptr 1 0) (.p (.int .i64 0))=.ws undefA 1 (.cells 36 [.p (.int .i64 0)]):=store_one (cs:=[.p (.int .i64 0)]) s36 g1 rfl (by simp)
     have hsame1:hset h' 1 (.cells 36 [.p (.int .i64 0)])=h':=by rw[← g1];exact hset_same h' 1 (by omega)
     simp only[sc20r0,sc20r1,sc20r2,sc20r3,sc20r4,sc20r5,sc20r6,sc20d6_x,sc20r7,sc20l8,sc20r9,sc20r10,sc20,↓rwS,↓rwX,rwZ,rwT,rwG,Nat.reduceEqDiff,Nat.reduceAdd,reduceCtorEq,Nat.reduceLT,t0,t2,t3,t4,t5,e1,opD_nilCheck,nilW_ptr,fp124_0,fp122_1,r0,e2,lw,callW_ret ext52 c52,c60_t ho,stw,hsame,ste,hsame1]
     refine pa_ret ho g0 g1 hcv hcs ?_ ?_ hpa<;>simp only[Tm.get_set,Nat.reduceEqDiff,if_true,if_false,t2,t3]
   ·have e2:decide ((a:Int)=(s.length:Int))=false:=decide_eq_false (by omega)
    rw[if_neg (fun q=>hae q.1)]at hpa
    simp only[sc20r0,sc20r1,sc20r2,sc20r3,sc20r4,sc20r5,sc20r6,sc20d6_x,sc20r7,sc20l8,sc20r9,sc20r10,sc20,↓rwS,↓rwX,rwZ,rwT,rwG,Nat.reduceEqDiff,Nat.reduceAdd,reduceCtorEq,Nat.reduceLT,t0,t2,t3,t4,t5,e1,opD_nilCheck,nilW_ptr,fp124_0,fp122_1,r0,e2,c60_f ho]
    refine pr _ _ (L:Int) b cv g0 g1 hcv ?_ ?_ hpa<;>simp only[Tm.get_set,Nat.reduceEqDiff,if_true,if_false,t2,t3]
end
end Go.Proofs

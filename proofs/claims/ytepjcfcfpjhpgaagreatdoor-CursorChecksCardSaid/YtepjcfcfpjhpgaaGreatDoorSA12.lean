/- What is proved: rules for splitting on what is not known; calls upon a pointer while a frame ends. Conditions: as before. -/
import Derived.Test.YtepjcfcfpjhpgaaGreatDoorSA11
import Derived.Test.YtepjcfcfpjhpgaaGreatDoorSA10
set_option linter.all false
namespace Go.Ai
open Go
inductive Tg (A B:Prop):Type
 |mk (b:Bool)
def splitT(A B:Prop):Tg A B→Prop
 |.mk b=>(b=true→A)∧(b=false→B)
theorem spl{b:Bool} {X Y:Prop} (h1:b=true→X) (h2:b=false→Y):splitT X Y (.mk b):=⟨h1,h2⟩
section
variable {b:Bool} {A B:Prop}
theorem splitT_t:splitT A B (.mk true)=A:=by simp [splitT]
theorem splitT_f:splitT A B (.mk false)=B:=by simp [splitT]
theorem condW_b:condW (.p (.bool b)) A B=splitT A B (.mk b):=by
 cases b<;>simp [condW,splitT]
theorem gW_bt:gW (.p (.bool b)) true A B=splitT A B (.mk b):=by
 cases b<;>simp [gW,splitT]
theorem gW_bf:gW (.p (.bool b)) false A B=splitT B A (.mk b):=by
 cases b<;>simp [gW,splitT]
theorem LW_bt{X Y:Option AV} {f hs k}:LW (gL (.p (.bool b)) true X Y) f hs k=splitT (LW X f hs k) (LW Y f hs k) (.mk b):=by
 cases b<;>simp [gL,splitT]
theorem LW_bf{X Y:Option AV} {f hs k}:LW (gL (.p (.bool b)) false X Y) f hs k=splitT (LW Y f hs k) (LW X f hs k) (.mk b):=by
 cases b<;>simp [gL,splitT]
theorem ret_bool{b c:Bool} (h:b=c):AEnd.ret (.p (.bool b))=.ret (.p (.bool c)):=by rw[h]
end
theorem rwX:((∀ {A B},splitT A B (.mk true)=A)∧(∀ {A B},splitT A B (.mk false)=B))∧(∀ {b A B},condW (.p (.bool b)) A B=splitT A B (.mk b))∧(∀ {b A B},gW (.p (.bool b)) true A B=splitT A B (.mk b))∧(∀ {b A B},gW (.p (.bool b)) false A B=splitT B A (.mk b)):=⟨⟨splitT_t,splitT_f⟩,condW_b,gW_bt,gW_bf⟩
theorem ex_0{a:AV} {l}:extractW (.tup (a::l)) 0=.w a:=(rfl)
theorem ex_1{a b:AV} {l}:extractW (.tup (a::b::l)) 1=.w b:=(rfl)
theorem ex_2{a b e:AV} {l}:extractW (.tup (a::b::e::l)) 2=.w e:=(rfl)
theorem rwZ:(∀ {a:AV} {l},extractW (.tup (a::l)) 0=.w a)∧(∀ {a b:AV} {l},extractW (.tup (a::b::l)) 1=.w b)∧(∀ {a b e:AV} {l},extractW (.tup (a::b::e::l)) 2=.w e):=⟨ex_0,ex_1,ex_2⟩
section
variable {c:Ctx} {o:Orc} {rd:Option Nat} {Q:Post} {t:Tm} {h:List Ob} {d:List AD} {r:Option RM} {k:KP}
theorem inner_cellF{gq f:FuncId} {i:Nat} {e0:TypeId} {cs cs':List PV} {ext:List Ob} {m m':RM} {vs:List AV} (hi:hget h i=.cells e0 (cs.map .p)) (hm:pureM m=true) (hm':pureM m'=true) (hv:vs=[])
  (run:∃ k0,∀ k,k0≤k→callN c o k (.fn f [.ptr 0 0,.p (.fn gq)]) [.cells e0 (cs.map .p)] (some m)=some (.mk (.ret (.tup vs)) (.cells e0 (cs'.map .p)::ext) (some m'))) :
  ∃ k0,∀ k,k0≤k→∀ F:CR→Option CR,inner (callN c o k) (.fn f [.ptr i 0,.p (.fn gq)]) h (some m) F none=F (.mk (.ret (.tup [])) (hset h i (.cells e0 (cs'.map .p))) (some m')):=by
 subst hv
 obtain⟨k0,h0⟩:=run
 refine⟨k0,fun k hk F=>?_⟩
 have hil:i<h.length:=by
  rw[hget_eq]at hi
  by_cases q:i<h.length
  ·exact q
  ·rw[List.getElem?_eq_none (by omega)]at hi;cases hi
 have hr0:inR h [i] i 0=some (0,0):=by
  unfold inR
  rw[posOf_of (l:=[i]) (j:=0) (by simp) rfl]
  simp only[hi];rfl
 unfold inner
 show(addNew (idsRM (some m) [i]) [] fun s=>reach h 10000 0 s fun s=>lnf (ltN h.length s) fun ks=>innerGo (callN c o k) h ks (.fn f [.ptr i 0,.p (.fn gq)]) (some m) F none)=_
 have hidm:idsRM (some m) [i]=[i]:=by
  cases m with
  |ret=>rfl
  |pan v b=>cases v<;>first|rfl|cases hm
 rw[hidm,addNew_cons,show elemN i []=false from rfl]
 simp only[cond,lnf_eq,List.nil_append]
 rw[addNew_nil]
 have hreach:∀ G:List Nat→Option CR,reach h 10000 0 [i] G=G [i]:=by
  intro G
  show(addNew (obIds (hget h i) []) [i] fun s=>forceN (0+1) fun n=>reach h 9999 n s G)=_
  rw[hi]
  show(addNew (idsL (cs.map .p) []) [i] _)=_
  rw[idsL_pures,addNew_nil,forceN_eq]
  exact reach_flat' h G 9999 1 [i] (fun j hj=>by cases hj)
 rw[hreach,ltN_all (by intro j hj;rw[List.mem_singleton.1 hj];exact hil)]
 unfold innerGo
 have hren:renCallee (inR h [i]) (.fn f [.ptr i 0,.p (.fn gq)])=some (.fn f [.ptr 0 0,.p (.fn gq)]):=by
  show some (Callee'.fn f [ren0 (inR h [i]) i (fun j=>AV.ptr j 0) .un,.p (.fn gq)])=_
  unfold ren0
  rw[hr0];rfl
 rw[renCalleeK_eq,hren]
 simp only
 rw[pickK_eq,renRMK_eq,pureM_ren hm]
 have hpick:pick (inR h [i]) h hget [i]=[.cells e0 (cs.map .p)]:=by
  rw[pick_cons,hi]
  show [Ob.cells e0 (renl (inR h [i]) (cs.map .p))]=_
  rw[renl_pures]
 rw[hpick]
 show(match callN c o k (.fn f [.ptr 0 0,.p (.fn gq)]) [.cells e0 (cs.map .p)] (some m)with
  |none=>none
  |some x=>innerBack h [i] x F none)=_
 rw[h0 k hk]
 simp only
 unfold innerBack
 simp only[lnf_eq]
 rw[show List.take ([i]:List Nat).length (Ob.cells e0 (cs'.map .p)::ext)=[.cells e0 (cs'.map .p)]from rfl]
 have hback:backOk h [i] [.cells e0 (cs'.map .p)]=true:=by
  show cond (Nat.beq (obGen (hget h i)) 0) true false=true
  rw[hi];rfl
 rw[hback]
 simp only[cond]
 have hids:idsEnd (.ret (.tup [])) (flatIds [.cells e0 (cs'.map .p)] (idsRM (some m') []))=[]:=by
  rw[pureM_ids hm']
  show idsL (cs'.map .p) []=[]
  exact idsL_pures _
 rw[hids,addNew_nil,reach_flat' _ _ _ _ _ (by intro j hj;cases hj)]
 rw[renEndK_eq,renRMK_eq,pureM_ren hm',putBackK_eq,pickK_eq]
 show F (CR.mk (.ret (.tup [])) (hset h i (.cells e0 (renl _ (cs'.map .p)))++[]) (some m'))=_
 rw[renl_pures,List.append_nil]
theorem cs_cell{f:FuncId} {q:PV} {en:AEnd} {i:Nat} {e0:TypeId} {cs cs':List PV} (hi:hget h i=.cells e0 (cs.map .p)) (he:en=.ret (.tup [])∨∃ v,en=.pan (.p v))
  (run:Ct c o (.fn f [.ptr 0 0,.p q]) [.cells e0 (cs.map .p)] fun e h1=>e=en∧∃ ext,h1=.cells e0 (cs'.map .p)::ext) :
  CS c o (.fn f [.ptr i 0,.p q]) h en (hset h i (.cells e0 (cs'.map .p))):=by
 obtain⟨e',h1',⟨k0,h0⟩,rfl,ext,rfl⟩:=run
 refine⟨k0,fun k hk F=>?_⟩
 have hil:i<h.length:=by
  rw[hget_eq]at hi
  by_cases q:i<h.length
  ·exact q
  ·rw[List.getElem?_eq_none (by omega)]at hi;cases hi
 have hr0:inR h [i] i 0=some (0,0):=by
  unfold inR
  rw[posOf_of (l:=[i]) (j:=0) (by simp) rfl]
  simp only[hi];rfl
 unfold inner
 show(addNew (idsRM none [i]) [] fun s=>reach h 10000 0 s fun s=>lnf (ltN h.length s) fun ks=>innerGo (callN c o k) h ks (.fn f [.ptr i 0,.p q]) none F none)=_
 have hidm:idsRM none [i]=[i]:=by
  rfl
 rw[hidm,addNew_cons,show elemN i []=false from rfl]
 simp only[cond,lnf_eq,List.nil_append]
 rw[addNew_nil]
 have hreach:∀ G:List Nat→Option Out,reach h 10000 0 [i] G=G [i]:=by
  intro G
  show(addNew (obIds (hget h i) []) [i] fun s=>forceN (0+1) fun n=>reach h 9999 n s G)=_
  rw[hi]
  show(addNew (idsL (cs.map .p) []) [i] _)=_
  rw[idsL_pures,addNew_nil,forceN_eq]
  exact reach_flat' h G 9999 1 [i] (fun j hj=>by cases hj)
 rw[hreach,ltN_all (by intro j hj;rw[List.mem_singleton.1 hj];exact hil)]
 unfold innerGo
 have hren:renCallee (inR h [i]) (.fn f [.ptr i 0,.p q])=some (.fn f [.ptr 0 0,.p q]):=by
  show some (Callee'.fn f [ren0 (inR h [i]) i (fun j=>AV.ptr j 0) .un,.p q])=_
  unfold ren0
  rw[hr0];rfl
 rw[renCalleeK_eq,hren]
 simp only
 rw[pickK_eq,renRMK_eq]
 have hpick:pick (inR h [i]) h hget [i]=[.cells e0 (cs.map .p)]:=by
  rw[pick_cons,hi]
  show [Ob.cells e0 (renl (inR h [i]) (cs.map .p))]=_
  rw[renl_pures]
 rw[hpick]
 show(match callN c o k (.fn f [.ptr 0 0,.p q]) [.cells e0 (cs.map .p)] none with
  |none=>none
  |some x=>innerBack h [i] x F none)=_
 rw[h0 k hk]
 simp only
 unfold innerBack
 simp only[lnf_eq]
 rw[show List.take ([i]:List Nat).length (Ob.cells e0 (cs'.map .p)::ext)=[.cells e0 (cs'.map .p)]from rfl]
 have hback:backOk h [i] [.cells e0 (cs'.map .p)]=true:=by
  show cond (Nat.beq (obGen (hget h i)) 0) true false=true
  rw[hi];rfl
 rw[hback]
 simp only[cond]
 have hids:idsEnd e' (flatIds [.cells e0 (cs'.map .p)] (idsRM none []))=[]:=by
  rcases he with rfl|⟨v,rfl⟩
  ·show idsL (cs'.map .p) []=[]
   exact idsL_pures _
  ·show idsL (cs'.map .p) []=[]
   exact idsL_pures _
 rw[hids,addNew_nil,reach_flat' _ _ _ _ _ (by intro j hj;cases hj)]
 rw[renEndK_eq,renRMK_eq,putBackK_eq,pickK_eq]
 have hfin:∀ r:RenF,renEnd r e'=e':=fun r=>by rcases he with rfl|⟨v,rfl⟩<;>rfl
 show F (CR.mk (renEnd _ e') (hset h i (.cells e0 (renl _ (cs'.map .p)))++[]) none)=_
 rw[renl_pures,List.append_nil,hfin]
def DefRunF(gq:FuncId) (c:Ctx) (o:Orc) (g:FuncId) (j:Nat) (h:List Ob) (m:RM) (h1:List Ob) (m':RM):Prop:=
 ∃ k0,∀ k,k0≤k→∀ F:CR→Option CR,inner (callN c o k) (.fn g [.ptr j 0,.p (.fn gq)]) h (some m) F none=F (.mk (.ret (.tup [])) h1 (some m'))
def endDF(gq:FuncId) (c:Ctx) (o:Orc) (rs:List ResultVar) (g:FuncId) (P:AEnd→List Ob→Prop):Post:=fun e t h d r=>
 r=none∧∃ j,d=[.fn g [.ptr j 0,.p (.fn gq)]]∧(match e with
 |.exit _=>False
 |.pan v=>∃ h1,DefRunF gq c o g j h (.pan v false) h1 (.pan v true)∧∃ vs,results? c h1 t rs=some vs∧P (.ret (vals vs)) h1
 |_=>∃ h1,DefRunF gq c o g j h .ret h1 .ret∧∃ vs,results? c h1 t rs=some vs∧P (.ret (vals vs)) h1)
theorem leave_defF{gq call rs t g j h m h1 m' vs} (hd:∀ F:CR→Option CR,inner call (.fn g [.ptr j 0,.p (.fn gq)]) h (some m) F none=F (.mk (.ret (.tup [])) h1 (some m'))) (hs:settleR m'=.ret) (hr:results? c h1 t rs=some vs) :
  leave c call rs t none [.fn g [.ptr j 0,.p (.fn gq)]] m h=some (.mk (.ret (vals vs)) h1 none):=by
 show inner call (.fn g [.ptr j 0,.p (.fn gq)]) h (some m) (fun x=>match x with
    |.mk e h r'=>(match e,r' with
     |.ret _,some m=>leave c call rs t none [] (settleR m) h
     |_,_=>none)) none=_
 rw[hd]
 simp only[hs]
 exact leave_nilR hr
theorem ct_defF{gq f:FuncId} {fn:Func} {sc:SC} {n:Nat} {rs:List ResultVar} {args h P} (g:FuncId) (hf:c.fn f=some fn) (hb:fn.body.map tr=some sc) (hn:fn.ntmps=n) (hr:fn.results.toList=rs)
  (ho:o f args h=none) (ha:Nat.ble args.length n=true) (hok:okS n sc=true)
  (hw:xC c o none sc (endDF gq c o rs g P) (argT args 0 .lf) h [] none):Ct c o (.fn f args) h P:=by
 subst hn;subst hr
 cases hb':fn.body with
 |none=>rw[hb']at hb;cases hb
 |some b=>
  rw[hb']at hb
  have:tr b=sc:=Option.some.inj hb
  subst this
  obtain⟨out,⟨k0,h0⟩,hq⟩:=xC_ok (fn:=f) b _ hok _ _ _ _ hw
  have st:∀ k,callN c o (k+1) (.fn f args) h none=callEnd c (callN c o k) fn (exec ⟨c,callN c o k,f,fn.ntmps,none⟩ k b (argT args 0 .lf) h [] none):=by
   intro k
   show callFn c o k (callN c o k) f args h none=_
   unfold callFn
   simp only[ho,hf]
   unfold callBody
   simp only[hb',ha,cond,argTm_eq]
  obtain⟨e,t',h',d',r'⟩:=out
  obtain⟨hr0,j,hd,hq⟩:=hq
  subst hr0;subst hd
  cases e with
  |exit i=>exact hq.elim
  |pan v=>
   obtain⟨h1,⟨k1,hdr⟩,vs,hvs,hP⟩:=hq
   refine⟨.ret (vals vs),h1,⟨max k0 k1+1,fun k hk=>?_⟩,hP⟩
   obtain⟨k,rfl⟩:∃ i,k=i+1:=⟨k-1,by omega⟩
   rw[st,h0 k (by omega) k (by omega)]
   exact leave_defF (hdr k (by omega)) rfl hvs
  |n=>
   obtain⟨h1,⟨k1,hdr⟩,vs,hvs,hP⟩:=hq
   refine⟨.ret (vals vs),h1,⟨max k0 k1+1,fun k hk=>?_⟩,hP⟩
   obtain⟨k,rfl⟩:∃ i,k=i+1:=⟨k-1,by omega⟩
   rw[st,h0 k (by omega) k (by omega)]
   exact leave_defF (hdr k (by omega)) rfl hvs
  |ret=>
   obtain⟨h1,⟨k1,hdr⟩,vs,hvs,hP⟩:=hq
   refine⟨.ret (vals vs),h1,⟨max k0 k1+1,fun k hk=>?_⟩,hP⟩
   obtain⟨k,rfl⟩:∃ i,k=i+1:=⟨k-1,by omega⟩
   rw[st,h0 k (by omega) k (by omega)]
   exact leave_defF (hdr k (by omega)) rfl hvs
end
end Go.Ai

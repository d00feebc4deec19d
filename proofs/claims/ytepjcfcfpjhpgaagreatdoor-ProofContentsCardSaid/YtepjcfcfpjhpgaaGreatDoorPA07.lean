/- What is proved: single operations, and draws in which the order of evaluation is left open, as the interpreter does them. Conditions: as before. -/
import Derived.Test.YtepjcfcfpjhpgaaGreatDoorPA06
import Derived.Orders
set_option linter.all false
namespace Go.Ai
open Go Go.RowKit
theorem SR.adv{c E n t h d r a u w E' h' w'} (S:SR c E n t h d r a u w) (A:Adv E h w E' h' w'):SR c E' n t h' d r a u w':=
 ⟨S.g.mono A.le,S.t.mono A.le,S.n,A.wr,S.d.mono A.le,S.r.mono A.le⟩
theorem getD_some{vs:Array Value} {d:Nat} {x:Value} (h:vs.getD d undef=x) (hx:x ≠ undef):vs[d]?=some x:=by
 rw[Array.getD_eq_getD_getElem?]at h
 cases hv:vs[d]? with
 |none=>rw[hv]at h;exact absurd h.symm hx
 |some y=>rw[hv]at h;simpa using h
theorem getD_of_some{vs:Array Value} {d:Nat} {x:Value} (h:vs[d]?=some x):vs.getD d undef=x:=by
 rw[Array.getD_eq_getD_getElem?,h];rfl
theorem VR.bool_inv{E q b} (h:VR E q (.bool b)):q=.un∨q=.p (.bool b):=by
 cases h with
 |un=>exact .inl rfl
 |p hp=>cases hp;exact .inr rfl
 |full hp hc=>cases hp
theorem wanted_ok{E t} {ops:Array Oper} {vs:Array Value} (ht:TR E t vs) {o:Oper} {b:Bool} (h:wanted? ops.toList t o.guard=some b) :
  Region.wanted o (yielded ops vs)=b:=by
 unfold wanted? at h
 unfold Region.wanted
 cases hg:o.guard with
 |none=>rw[hg]at h;simpa using h
 |some gw=>
  obtain⟨j,want⟩:=gw
  rw[hg]at h
  simp only at h ⊢
  have e:(ops.toList[j]?)=ops[j]?:=by simp
  rw[e]at h
  unfold yielded
  cases hd:(ops[j]?).bind (·.dst)with
  |none=>rw[hd]at h;simp at h;subst h;simp
  |some d=>
   rw[hd]at h
   simp only at h
   simp only[Option.bind_some]
   have hv:=ht d
   cases hx:vs[d]? with
   |none=>
    have hu:vs.getD d undef=undef:=by rw[Array.getD_eq_getD_getElem?,hx];rfl
    rw[hu]at hv
    have:b=false:=by
     revert h
     split
     ·rename_i p hq
      rw[hq]at hv
      have:=hv.p_inv
      cases this
     ·intro h;cases h
     ·intro h;simpa using h.symm
    subst this
    simp
   |some x=>
    rw[getD_of_some hx]at hv
    by_cases hb:∃ z,x=.bool z
    ·obtain⟨z,rfl⟩:=hb
     rcases hv.bool_inv with hq|hq
     ·rw[hq]at h;simp at h
     ·rw[hq]at h
      simp only[Option.some.injEq]at h
      rw[← h]
      simp
    ·have hf:b=false:=by
      revert h
      split
      ·rename_i p hq
       rw[hq]at hv
       have hp:=hv.p_inv
       split
       ·rename_i z
        cases hp
        exact absurd ⟨_,rfl⟩ hb
       ·intro h;simpa using h.symm
      ·intro h;cases h
      ·intro h;simpa using h.symm
     subst hf
     cases x<;>first|rfl|exact absurd ⟨_,rfl⟩ hb
section
variable {P:Program} {X:Fx} {a:Act} {k:List Item} {u:FrameMode} {w w':World} {ops:Array Oper} {i:Nat} {rest:List Nat} {o:Oper}
theorem fin_eq(b:Frame) (ho:ops[i]?=some o) (v:Value):(fat b a (.inRegion ops (i::rest)::k)).finish v=fat b (a.put o.dst v) (.inRegion ops rest::k):=by
 rw[fat_finish,ho];rfl
theorem op_value(ho:ops[i]?=some o) (hw:Region.wanted o (yielded ops a.tmps)=true) (hd:X.b.roundOf=none∨∀ c,o.op ≠ .defer c) {v:Value}
  (hr:(execOp a.eval o).run P w=.ok (.value v) w'):Steps P (St X a (.inRegion ops (i::rest)::k) u w) (St X (a.put o.dst v) (.inRegion ops rest::k) u w'):=by
 refine .one (step_lone_go ?_)
 rw[fstepG_op ho hw hd,← fin_eq X.b ho];simp [stepG.apply,hr]
theorem op_skip(ho:ops[i]?=some o) (hw:Region.wanted o (yielded ops a.tmps)=true) (hd:X.b.roundOf=none∨∀ c,o.op ≠ .defer c)
  (hr:(execOp a.eval o).run P w=.ok .skip w'):Steps P (St X a (.inRegion ops (i::rest)::k) u w) (St X (a.put o.dst undef) (.inRegion ops rest::k) u w'):=by
 refine .one (step_lone_go ?_)
 rw[fstepG_op ho hw hd,← fin_eq X.b ho];simp [stepG.apply,hr]
theorem op_defer(ho:ops[i]?=some o) (hw:Region.wanted o (yielded ops a.tmps)=true) (hd:X.b.roundOf=none) {d:Deferred}
  (hr:(execOp a.eval o).run P w=.ok (.defer d) w') :
  Steps P (St X a (.inRegion ops (i::rest)::k) u w) (St X (({a with defers:=d::a.defers}:Act).put o.dst undef) (.inRegion ops rest::k) u w'):=by
 refine .one (step_lone_go ?_)
 rw[fstepG_op ho hw (.inl hd),← fin_eq X.b ho];simp [stepG.apply,hr];rfl
theorem op_panic(ho:ops[i]?=some o) (hw:Region.wanted o (yielded ops a.tmps)=true) (hd:X.b.roundOf=none∨∀ c,o.op ≠ .defer c) {v:Value}
  (hr:(execOp a.eval o).run P w=.halt (.panic v) w') :
  Steps P (St X a (.inRegion ops (i::rest)::k) u w) (lone {fat X.b a (.inRegion ops (i::rest)::k)with mode:=.panicking [{v,recovered:=false}]} (X.cs u) w'):=by
 refine .one (step_lone_go ?_)
 rw[fstepG_op ho hw hd];simp [stepG.apply,hr,Frame.raise,fat]
theorem op_enter(ho:ops[i]?=some o) (hw:Region.wanted o (yielded ops a.tmps)=true) (hd:X.b.roundOf=none∨∀ c,o.op ≠ .defer c) {f:FuncId} {vs:Array Value}
  (hr:(execOp a.eval o).run P w=.ok (.enter f vs) w') :
  step P (St X a (.inRegion ops (i::rest)::k) u w)=.next (lone (Frame.enter P f vs .normal) (fat X.b a (.inRegion ops (i::rest)::k)::X.cs u) w'):=by
 refine step_lone_go ?_
 rw[fstepG_op ho hw hd];simp [stepG.apply,hr,fat]
theorem op_round(ho:ops[i]?=some o) (hw:Region.wanted o (yielded ops a.tmps)=true) (hd:X.b.roundOf=none∨∀ c,o.op ≠ .defer c) {l:Nat} {f:FuncId} {tmps:Array Value} {c1 c2:Code}
  (hr:(execOp a.eval o).run P w=.ok (.round l f tmps c1 c2) w') :
  step P (St X a (.inRegion ops (i::rest)::k) u w)=.next (lone (Frame.round l f tmps c1 c2 .normal) (fat X.b a (.inRegion ops (i::rest)::k)::X.cs u) w'):=by
 refine step_lone_go ?_
 rw[fstepG_op ho hw hd];simp [stepG.apply,hr]
end
theorem opDo_eq{E:Env} {o dst ih t h d r} {vh:VH} (hn:vh.isNo=false):opDo E o dst ih t h d r vh=putK E.n dst vh.val t fun t=>ih t (vh.heap h) d r:=by
 cases vh with
 |no=>simp [VH.isNo]at hn
 |w v=>rfl
 |ws v i o=>show hsetK h i o _=_;rw[hsetK_eq];rfl
 |wn v o=>show lnf (h++[o]) _=_;rw[lnf_eq];rfl
 |wh v h=>rfl
inductive OpEnd (P:Program) (X:Fx) (ops:Array Oper) (i:Nat) (rest:List Nat) (k:List Item) (n:Nat) (o:Oper) (K:K) (E:Rn) (h:List Ob) (w:World) (t:Tm) (d:List AD) (r:Option RM) (a:Act) (u:FrameMode) (out:Out):Prop
 |val {v x E' h' d' r' u' w' df} (A:Adv E h w E' h' w') (hv:VR E' v x) (hd:DR E' d' df) (hr:RR E' r' u') (hs:r'.isSome=r.isSome)
   (st:Steps P (St X a (.inRegion ops (i::rest)::k) u w) (St X (({a with defers:=df}:Act).put o.dst x) (.inRegion ops rest::k) u' w'))
   (ho:putK n o.dst v t (fun t=>K t h' d' r')=some out)
 |pan {v x E' h' w'} (A:Adv E h w E' h' w') (hv:VR E' v x)
   (st:Steps P (St X a (.inRegion ops (i::rest)::k) u w) (lone {fat X.b a (.inRegion ops (i::rest)::k)with mode:=.panicking [{v:=x,recovered:=false}]} (X.cs u) w'))
   (ho:out=.mk (.pan v) t h' d r)
theorem OpEnd.good{c P X fn rd n ops i rest k k' o K E h w t d r a u out} (hk:KOk c P X fn rd n (.inRegion ops rest::k) k' K) (S:SR c E n t h d r a u w) (F:FxOk E X fn rd r.isSome)
  (H:OpEnd P X ops i rest k n o K E h w t d r a u out):Good c P X (St X a (.inRegion ops (i::rest)::k) u w) k' E h w n r out:=by
 cases H with
 | @val v x E' h' d' r' u' w' df A hv hd hr hs st ho=>
  have S':SR c E' n t h' d' r' ({a with defers:=df}:Act) u' w':=⟨S.g.mono A.le,S.t.mono A.le,S.n,A.wr,hd,hr⟩
  exact(putK_ok hk S' (by rw[hs];exact F.mono A.le) hv ho).step st A hs
 | @pan v x E' h' w' A hv st ho=>
  subst ho
  exact⟨E',a,u,w',A,S.adv A,rfl,_,x,hv,st⟩
section
variable {c:Ctx} {P:Program} {call:CallF}
theorem callK_ok(C:CtxOk c P) (hcall:CallOk c P call) {X:Fx} {fn rd n ops k K i rest o cl E t h d r a u w out s}
  (ho:ops[i]?=some o) (S:SR c E n t h d r a u w)
  (hw:Region.wanted o (yielded ops a.tmps)=true) (hd:∀ c,o.op ≠ .defer c) (I:Invoked P E w cl s) (hs:(execOp a.eval o).run P w=s.run P w)
  (hout:callK ⟨c,call,fn,n,rd⟩ o.dst K t h d r (some cl)=some out):OpEnd P X ops i rest k n o K E h w t d r a u out:=by
 unfold callK at hout
 simp only at hout
 cases hext:extOf c h cl with
 |some v=>
  rw[hext]at hout
  simp only at hout
  cases cl with
  |yield i args=>cases hext
  |fn f args=>
   obtain⟨vs,l,hs'⟩:=I
   simp only[extOf]at hext
   cases hk:c.ext f with
   |none=>rw[hk]at hext;cases hext
   |some k'=>
    rw[hk]at hext
    obtain⟨x,hx,hvx⟩:=extV_ok C S.w hk hext l
    exact .val (Adv.refl S.w) hvx S.d S.r rfl (op_value ho hw (.inr hd) (hs.trans (hs'.trans hx))) hout
 |none=>
 rw[hext]at hout
 simp only at hout
 obtain⟨e,h',r',H,hf⟩:=inner_ok hcall hout
 obtain⟨E',w',x,A,hv,st⟩:=call_back H S.w S.g I (m0:=St X a (.inRegion ops (i::rest)::k) u w) (fr:=fat X.b a (.inRegion ops (i::rest)::k)) (cs:=X.cs u)
  (fun f vs hr=>op_enter ho hw (.inr hd) (hs.trans hr)) (fun b f tmps c1 c2 hr=>op_round ho hw (.inr hd) (hs.trans hr))
 cases e with
 |ret v=>
  have S':=S.adv A
  simp only[ended]at hf
  have st':Steps P (St X a (.inRegion ops (i::rest)::k) u w) (St X (a.put o.dst x) (.inRegion ops rest::k) u w'):=by
   have:=st;simp only[backM,fin_eq X.b ho]at this;exact this
  exact .val A hv S'.d S'.r rfl st' hf
 |pan v=>
  simp only[ended,Option.some.injEq]at hf
  exact .pan A hv st hf.symm
theorem bigD_ok(C:CtxOk c P) (hcall:CallOk c P call) {X fn rd n ops k K i rest o E t h d r a u w out}
  (ho:ops[i]?=some o) (S:SR c E n t h d r a u w) (F:FxOk E X fn rd r.isSome)
  (hw:Region.wanted o (yielded ops a.tmps)=true)
  (hout:bigD o.op ⟨c,call,fn,n,rd⟩ o.dst K t h d r=some out):OpEnd P X ops i rest k n o K E h w t d r a u out:=by
 have ev:=fun x=>ev_ok (c:=c) S.g S.t x
 have evs:=fun l=>evs_ok (c:=c) S.g S.t l
 cases hop:o.op with
 |call cl=>
  rw[hop]at hout
  have hd:∀ c,o.op ≠ .defer c:=fun c hh=>by rw[hop]at hh;cases hh
  simp only[bigD]at hout
  cases hc:cl.callee with
  |value f=>
   rw[hc]at hout
   simp only[bCall,evsK_eq]at hout
   cases ht:target? (Ai.ev c t f) (Ai.evs c t cl.args.toList)with
   |none=>rw[ht]at hout;simp [callK]at hout
   |some tg=>
    rw[ht]at hout
    have l:=evs cl.args.toList
    have l':LR E (Ai.evs c t cl.args.toList) (cl.args.map a.eval).toList:=by simpa using l
    have I:=(target_ok (P:=P) (w:=w) (ev f) l' ht).1
    refine callK_ok C hcall ho S hw hd I ?_ hout
    unfold execOp
    rw[hop]
    simp only[resolve,hc]
  |invoke x name=>
   rw[hc]at hout
   simp only[bInvoke,evsK_eq]at hout
   cases ht:invoked c name (Ai.ev c t x) (Ai.evs c t cl.args.toList)with
   |none=>rw[ht]at hout;simp [callK]at hout
   |some tg=>
    rw[ht]at hout
    have l:=evs cl.args.toList
    have l':LR E (Ai.evs c t cl.args.toList) (cl.args.map a.eval).toList:=by simpa using l
    have key:∃ ty v q f,a.eval x=.iface ty v∧methodOf c ty name=some f∧VR E q v∧tg=.fn f (q::Ai.evs c t cl.args.toList):=by
     have hv:=ev x
     unfold invoked at ht
     split at ht
     ·rename_i p hp
      rw[hp]at hv
      split at ht
      ·rename_i ty q
       have hp':=hv.p_inv
       generalize a.eval x=y at hp'
       cases hp' with
       |face hq=>
        split at ht
        ·rename_i f hm;cases ht;exact⟨ty,_,_,f,rfl,hm,.p hq,rfl⟩
        ·cases ht
      ·cases ht
     ·rename_i ty q hp
      rw[hp]at hv
      generalize a.eval x=y at hv
      cases hv with
      |face hq=>
       split at ht
       ·rename_i f hm;cases ht;exact⟨ty,_,_,f,rfl,hm,hq,rfl⟩
       ·cases ht
     ·cases ht
    obtain⟨ty,v,q,f,h1,h2,h3,rfl⟩:=key
    have I:Invoked P E w (.fn f (q::Ai.evs c t cl.args.toList)) (callFunc f (#[v]++cl.args.map a.eval)):=
     ⟨#[v]++cl.args.map a.eval,by simpa using LR.cons h3 l',rfl⟩
    refine callK_ok C hcall ho S hw hd I ?_ hout
    unfold execOp
    rw[hop]
    have hm:=method_ok (P:=P) C h2 v (P.types.size+99) w
    simp only[resolve,hc,Sem.run_bind,Sem.run_pure,Result.andThen_ok,invoke]
    have e0:(#[a.eval x]++cl.args.map a.eval)[0]?=some (a.eval x):=by simp [Array.getElem?_append]
    have e1:(#[a.eval x]++cl.args.map a.eval).extract 1 (#[a.eval x]++cl.args.map a.eval).size=cl.args.map a.eval:=by
     apply Array.ext
     ·simp
     ·intro i h1 h2
      simp
    rw[e0,e1]
    simp only[h1,callMethod,Sem.run_bind]
    have e2:(program:Sem Program).run P w=.ok P w:=rfl
    rw[e2]
    simp only[Result.andThen_ok]
    have e3:P.types.size+Made.depth=P.types.size+99+1:=rfl
    rw[e3,hm]
    rfl
  |builtin b=>
   rw[hc]at hout
   simp only at hout
   split at hout
   ·-- recover
    rename_i hcase
    unfold bRecover at hout
    simp only at hout
    have hrun:(execOp a.eval o).run P w=.ok .recover w:=by
     rw[builtin_run hop hc];rfl
    cases rd with
    |some l=>simp at hout
    |none=>
     simp only at hout
     have hro:X.b.roundOf=none:=by
      rcases F.rd with⟨_,h2⟩|⟨i,b,n,h1,_⟩
      ·exact h2
      ·cases h1
     have general:∀ (res:Option (Value×List Frame)),tryRecover (fat X.b a (.inRegion ops (i::rest)::k)) (X.cs u)=res →
       step P (St X a (.inRegion ops (i::rest)::k) u w)=.next (match res with
        |some (v,cs)=>lone ((fat X.b a (.inRegion ops (i::rest)::k)).finish v) cs w
        |none=>lone ((fat X.b a (.inRegion ops (i::rest)::k)).finish .nilIface) (X.cs u) w):=by
      intro res hres
      have hro':(fat X.b a (.inRegion ops (i::rest)::k)).roundOf=none:=hro
      cases res with
      |none=>exact step_lone_go (by rw[fstepG_op ho hw (.inr hd)];simp [stepG.apply,hrun,hro',hres])
      |some vc=>exact step_lone_go (by rw[fstepG_op ho hw (.inr hd)];simp [stepG.apply,hrun,hro',hres])
     have nilcase:tryRecover (fat X.b a (.inRegion ops (i::rest)::k)) (X.cs u)=none →
       putK n o.dst (.p .nili) t (fun t=>K t h d r)=some out→OpEnd P X ops i rest k n o K E h w t d r a u out:=by
      intro hres hp
      have hst:=general none hres
      simp only[fin_eq X.b ho]at hst
      exact .val (x:=.nilIface) (Adv.refl S.w) (.p .nili) S.d S.r rfl (.one hst) hp
     rcases F.kind with⟨h1,h2⟩|⟨h1,h2,c0,cs0,h3⟩
     ·have hr:r=none:=by cases r<;>simp_all
      subst hr
      refine nilcase ?_ (by simpa using hout)
      unfold tryRecover
      simp [fat,h2]
     ·cases hr:r with
      |none=>rw[hr]at h1;simp at h1
      |some m=>
       have hm:=S.r m hr
       have hcs:X.cs u={c0 with mode:=u}::cs0:=by rw[h3]
       rw[hr]at hout
       cases hm with
       |ret=>
        rw[← hr]
        rw[← hr]at hout
        refine nilcase ?_ (by rw[hr]at hout ⊢;simpa using hout)
        unfold tryRecover
        simp [fat,h2,hcs]
       | @pan v x b hv=>
        cases b with
        |true=>
         rw[← hr]
         rw[← hr]at hout
         refine nilcase ?_ (by rw[hr]at hout ⊢;simpa using hout)
         unfold tryRecover
         simp [fat,h2,hcs]
        |false=>
         simp only at hout
         have hst:=general (some (x,X.cs (.panicking [{v:=x,recovered:=true}]))) (by
          unfold tryRecover
          simp [fat,h2,hcs,h3])
         simp only[fin_eq X.b ho]at hst
         exact .val (r':=some (.pan v true)) (u':=.panicking [{v:=x,recovered:=true}]) (Adv.refl S.w) hv S.d (fun m hm=>by cases hm;exact .pan hv) rfl (.one hst) hout
   ·simp [bNo]at hout
 |defer cl=>
  rw[hop]at hout
  simp only[bigD]at hout
  cases hc:cl.callee with
  |value f=>
   rw[hc]at hout
   simp only[bDefer,evsK_eq]at hout
   cases rd with
   |some l=>simp at hout
   |none=>
    have hro:X.b.roundOf=none:=by
     rcases F.rd with⟨_,h2⟩|⟨i,b,n,h1,_⟩
     ·exact h2
     ·cases h1
    simp only at hout
    split at hout
    ·rename_i g as ht
     have l:=evs cl.args.toList
     have l':LR E (Ai.evs c t cl.args.toList) (cl.args.map a.eval).toList:=by simpa using l
     obtain⟨cap',as',h1,h2⟩:=(target_ok (P:=P) (w:=w) (ev f) l' ht).2 g as rfl
     have hrun:(execOp a.eval o).run P w=.ok (.defer {target:=.fn (.func g) cap',args:=as'}) w:=by
      unfold execOp
      rw[hop]
      simp only[resolve,hc,Sem.run_bind,h1,Result.andThen_ok,Sem.run_pure]
     have st:=op_defer (X:=X) (k:=k) (u:=u) (rest:=rest) ho hw hro hrun
     exact .val (Adv.refl S.w) (VR.undef E) (.cons (.fn h2) S.d) S.r rfl st hout
    ·cases hout
  |_=>rw[hc]at hout;simp [bNo]at hout
 |panic x=>
  rw[hop]at hout
  have hd:∀ c,o.op ≠ .defer c:=fun c hh=>by rw[hop]at hh;cases hh
  simp only[bigD,bPanic]at hout
  cases hi:isFace (Ai.ev c t x)with
  |false=>rw[hi]at hout;simp at hout
  |true=>
   rw[hi]at hout
   simp only[cond,Option.some.injEq]at hout
   subst hout
   have hv:=ev x
   have hx:∃ ty v,a.eval x=.iface ty v:=by
    unfold isFace at hi
    split at hi
    ·rename_i hq
     rw[hq]at hv
     generalize a.eval x=y at hv
     cases hv;exact⟨_,_,rfl⟩
    ·rename_i p hq
     rw[hq]at hv
     have hp:=hv.p_inv
     split at hi
     ·generalize a.eval x=y at hp
      cases hp;exact⟨_,_,rfl⟩
     ·cases hi
    ·cases hi
   obtain⟨ty,v,hx⟩:=hx
   have hrun:(execOp a.eval o).run P w=.halt (.panic (a.eval x)) w:=by
    unfold execOp
    rw[hop]
    simp only[hx,Instr.panic,goPanic,Sem.run_bind,Sem.run_halt,Result.andThen_halt]
   exact .pan (Adv.refl S.w) hv (op_panic ho hw (.inr hd) hrun) rfl
 |_=>rw[hop]at hout;simp [bigD,bNo]at hout
theorem opD_defer(cl:Call) (c:Ctx) (t:Tm) (h:List Ob):(opD (.defer cl) c t h).isNo=true:=rfl
theorem opStep_end(C:CtxOk c P) (hcall:CallOk c P call) {X fn rd n k K i rest o} {ops:Array Oper} (ho:ops[i]?=some o)
  {E t h d r a u w out} (S:SR c E n t h d r a u w) (F:FxOk E X fn rd r.isSome) (hout:opStep ⟨c,call,fn,n,rd⟩ ops.toList o K t h d r=some out) :
  OpEnd P X ops i rest k n o K E h w t d r a u out:=by
 unfold opStep at hout
 cases hwt:wanted? ops.toList t o.guard with
 |none=>rw[hwt]at hout;cases hout
 |some b=>
  rw[hwt]at hout
  have hw:=wanted_ok S.t hwt
  cases b with
  |false=>
   simp only at hout
   have hst:=fstep_op_skip (P:=P) (b:=X.b) (a:=a) (k:=k) (cs:=X.cs u) (w:=w) (ops:=ops) (i:=i) (rest:=rest) (by rw[ho];simpa using hw)
   rw[ho]at hst
   exact .val (Adv.refl S.w) (VR.undef E) S.d S.r rfl (.one hst) hout
  |true=>
   simp only at hout
   cases hn:(opD o.op c t h).isNo with
   |true=>
    have:opD o.op c t h=.no:=by
     generalize opD o.op c t h=q at hn
     cases q<;>first|rfl|(simp [VH.isNo]at hn)
    rw[this]at hout
    exact bigD_ok C hcall ho S F hw hout
   |false=>
    rw[opDo_eq hn]at hout
    have hd:∀ cl,o.op ≠ .defer cl:=fun cl hh=>by rw[hh,opD_defer]at hn;cases hn
    obtain⟨nx,w',hr,hh⟩:=opD_ok C S.w S.g S.t o hn
    rcases hh with⟨v,rfl,E',A,hv⟩|⟨rfl,E',A,hv⟩
    ·exact .val A hv (S.adv A).d (S.adv A).r rfl (op_value ho hw (.inr hd) hr) hout
    ·exact .val A hv (S.adv A).d (S.adv A).r rfl (op_skip ho hw (.inr hd) hr) hout
theorem opStep_ok(C:CtxOk c P) (hcall:CallOk c P call) {X fn rd n k K i rest o} {ops:Array Oper} (ho:ops[i]?=some o)
  (hk:KOk c P X fn rd n (.inRegion ops rest::k) k K) :
  KOk c P X fn rd n (.inRegion ops (i::rest)::k) k (opStep ⟨c,call,fn,n,rd⟩ ops.toList o K):=
 fun E t h d r a u w out S F hout=>(opStep_end C hcall ho S F hout).good hk S F
theorem opsRun_ok(C:CtxOk c P) (hcall:CallOk c P call) {X fn rd n k} {ops:Array Oper}:∀ (m i:Nat),i+m=ops.size →
  KOk c P X fn rd n (.inRegion ops (List.range' i m)::k) k (opsRun ⟨c,call,fn,n,rd⟩ ops.toList (ops.toList.drop i)):=by
 intro m
 induction m with
 |zero=>
  intro i hi
  have hdrop:ops.toList.drop i=[]:=by
   apply List.drop_eq_nil_of_le;simp;omega
  rw[hdrop]
  intro E t h d r a u w out S F hout
  have hout':some (Out.mk .n t h d r)=some out:=hout
  cases hout'
  exact⟨E,a,u,w,Adv.refl S.w,S,rfl,.one fstep_region_end⟩
 |succ m ih=>
  intro i hi
  have hlt:i<ops.size:=by omega
  have hdrop:ops.toList.drop i=ops[i]::ops.toList.drop (i+1):=by
   rw[List.drop_eq_getElem_cons (by simpa using hlt)];simp
  rw[hdrop,List.range'_succ]
  exact opStep_ok C hcall (by simp [hlt]) (ih (i+1) (by omega))
end
theorem foldl_bit(acc:List Nat) (j:Nat):∀ (l:List Edge) (s:Nat),
  (l.foldl (fun s e=>cond (Region.binds .any e) (s ||| (2 ^ e.on ||| acc.getD e.on 0)) s) s).testBit j=true ↔
   s.testBit j=true∨∃ e∈l,Region.binds .any e=true∧(e.on=j∨(acc.getD e.on 0).testBit j=true):=by
 intro l
 induction l with
 |nil=>intro s;simp
 |cons e l ih=>
  intro s
  rw[List.foldl_cons,ih]
  cases hb:Region.binds .any e with
  |false=>simp [hb]
  |true=>
   simp only[cond,Nat.testBit_or,Nat.testBit_two_pow,Bool.or_eq_true,decide_eq_true_eq,List.mem_cons,exists_eq_or_imp,hb,true_and]
   constructor
   ·rintro((h|h|h)|h)
    ·exact .inl h
    ·exact .inr (.inl (.inl h))
    ·exact .inr (.inl (.inr h))
    ·exact .inr (.inr h)
   ·rintro(h|(h|h)|h)
    ·exact .inl (.inl h)
    ·exact .inl (.inr (.inl h))
    ·exact .inl (.inr (.inr h))
    ·exact .inr h
theorem before1_bit(acc:List Nat) (o:Oper) (j:Nat):(before1 acc o).testBit j=true↔∃ e∈o.after.toList,Region.binds .any e=true∧(e.on=j∨(acc.getD e.on 0).testBit j=true):=by
 unfold before1
 rw[foldl_bit]
 simp
theorem befores_pre:∀ (l:List Oper) (acc:List Nat),∃ r,befores l acc=acc++r:=by
 intro l
 induction l with
 |nil=>intro acc;exact⟨[],by simp [befores]⟩
 |cons o l ih=>
  intro acc
  obtain⟨r,hr⟩:=ih (acc++[before1 acc o])
  exact⟨before1 acc o::r,by rw[befores,hr];simp⟩
theorem befores_at:∀ (l:List Oper) (acc:List Nat) (k:Nat) (o:Oper),l[k]?=some o →
  ∃ pre,(∀ n,pre.getD n 0=(befores l acc).getD n 0∨pre.getD n 0=0)∧(befores l acc).getD (acc.length+k) 0=before1 pre o:=by
 intro l
 induction l with
 |nil=>intro acc k o h;simp at h
 |cons x l ih=>
  intro acc k o h
  cases k with
  |zero=>
   simp only[List.getElem?_cons_zero,Option.some.injEq]at h
   subst h
   obtain⟨r,hr⟩:=befores_pre l (acc++[before1 acc x])
   refine⟨acc,fun n=>?_,?_⟩
   ·rw[befores,hr]
    by_cases hn:n<acc.length
    ·left
     simp [List.getD_eq_getElem?_getD,List.getElem?_append_left hn]
    ·right
     simp [List.getD_eq_getElem?_getD,List.getElem?_eq_none (Nat.le_of_not_lt hn)]
   ·rw[befores,hr]
    simp [List.getD_eq_getElem?_getD]
  |succ k=>
   obtain⟨pre,h1,h2⟩:=ih (acc++[before1 acc x]) k o (by simpa using h)
   refine⟨pre,fun n=>?_,?_⟩
   ·rw[befores];exact h1 n
   ·rw[befores,← h2]
    congr 1
    simp;omega
structure Ordd (all:List Oper) (b:List Nat):Prop where
 edge:∀ (i:Nat) (o:Oper) (j:Nat),all[i]?=some o→ordered b j i=true→∃ e∈o.after.toList,Region.binds .any e=true∧(e.on=j∨ordered b j e.on=true)
 lt:∀ (i:Nat) (o:Oper),all[i]?=some o→∀ e∈o.after.toList,Region.binds .any e=true→e.on<i
 same:∀ (i j:Nat) (x y:Oper),i<j→all[i]?=some x→all[j]?=some y→sameDst x y=true→ordered b i j=true
 acts:∀ (i j:Nat) (x y:Oper),i<j→all[i]?=some x→all[j]?=some y→isA x.op=true→isA y.op=true→ordered b i j=true
 z:∀ (i:Nat) (o:Oper),all[i]?=some o→isZ o.op=true→o.guard=none
theorem pairOk_at{b:List Nat} {y:Oper} {j:Nat}:∀ (l:List Oper) (i k:Nat) (x:Oper),pairOk b y j l i=true→l[k]?=some x→i+k<j →
  (ordered b (i+k) j || !(sameDst x y || (isA x.op&&isA y.op)))=true:=by
 intro l
 induction l with
 |nil=>intro i k x _ h;simp at h
 |cons z l ih=>
  intro i k x h hk hlt
  unfold pairOk at h
  have hij:i<j:=by omega
  rw[show Nat.blt i j=true from by rw[blt_dec];simpa using hij]at h
  simp only[cond]at h
  cases hc:(ordered b i j || !(sameDst z y || (isA z.op&&isA y.op)))with
  |false=>rw[hc]at h;cases h
  |true=>
   rw[hc]at h
   cases k with
   |zero=>
    simp only[List.getElem?_cons_zero,Option.some.injEq]at hk
    subst hk
    exact hc
   |succ k=>
    have:=ih (i+1) k x h (by simpa using hk) (by omega)
    rw[show i+1+k=i+(k+1) by omega]at this
    exact this
theorem pairsOk_at{all:List Oper} {b:List Nat}:∀ (l:List Oper) (j k:Nat) (y:Oper),pairsOk all b l j=true→l[k]?=some y →
  (y.after.toList.all (fun e=>!Region.binds .any e || Nat.blt e.on (j+k))&&(!isZ y.op || (y.guard.isNone&&y.dst.isSome))&&pairOk b y (j+k) all 0)=true:=by
 intro l
 induction l with
 |nil=>intro j k y _ h;simp at h
 |cons z l ih=>
  intro j k y h hk
  unfold pairsOk at h
  cases hc:(z.after.toList.all (fun e=>!Region.binds .any e || Nat.blt e.on j)&&(!isZ z.op || (z.guard.isNone&&z.dst.isSome))&&pairOk b z j all 0)with
  |false=>rw[hc]at h;cases h
  |true=>
   rw[hc]at h
   cases k with
   |zero=>
    simp only[List.getElem?_cons_zero,Option.some.injEq]at hk
    subst hk
    exact hc
   |succ k=>
    have:=ih (j+1) k y h (by simpa using hk)
    rw[show j+1+k=j+(k+1) by omega]at this
    exact this
theorem ord_of{all:List Oper} (h:pairsOk all (befores all []) all 0=true):Ordd all (befores all []):=by
 refine⟨?_,?_,?_,?_,?_⟩
 ·intro i o j hi hj
  obtain⟨pre,h1,h2⟩:=befores_at all [] i o hi
  unfold ordered at hj
  rw[List.length_nil,Nat.zero_add]at h2
  rw[h2,before1_bit]at hj
  obtain⟨e,he,hb,hh⟩:=hj
  refine⟨e,he,hb,hh.imp id fun hh=>?_⟩
  unfold ordered
  rcases h1 e.on with h3|h3
  ·rw[← h3];exact hh
  ·rw[h3]at hh;simp at hh
 ·intro i o hi e he hb
  have:=pairsOk_at all 0 i o h hi
  simp only[Nat.zero_add,Bool.and_eq_true,List.all_eq_true]at this
  have:=this.1.1 e he
  rw[hb]at this
  simpa [blt_dec]using this
 ·intro i j x y hij hi hj hs
  have:=pairsOk_at all 0 j y h hj
  simp only[Nat.zero_add,Bool.and_eq_true]at this
  have:=pairOk_at all 0 i x this.2 hi (by omega)
  rw[hs]at this
  simpa using this
 ·intro i j x y hij hi hj hx hy
  have:=pairsOk_at all 0 j y h hj
  simp only[Nat.zero_add,Bool.and_eq_true]at this
  have:=pairOk_at all 0 i x this.2 hi (by omega)
  rw[hx,hy]at this
  simpa using this
 ·intro i o hi hz
  have:=pairsOk_at all 0 i o h hi
  simp only[Nat.zero_add,Bool.and_eq_true]at this
  have:=this.1.2
  rw[hz]at this
  simp only[Bool.not_true,Bool.false_or,Bool.and_eq_true]at this
  simpa using this.1
theorem Ordd.below{all:List Oper} {b:List Nat} (O:Ordd all b):∀ (i:Nat),i<all.length→∀ j,ordered b j i=true→j<i:=by
 intro i
 induction i using Nat.strongRecOn with
 |_ i ih=>
  intro hi j hj
  obtain⟨e,he,hb,hh⟩:=O.edge i _ j (List.getElem?_eq_getElem hi) hj
  have hlt:=O.lt i _ (List.getElem?_eq_getElem hi) e he hb
  rcases hh with rfl|hh
  ·exact hlt
  ·exact Nat.lt_trans (ih e.on hlt (by omega) j hh) hlt
mutual
theorem PV.same_eq:∀ (a b:PV),PV.same a b=true→a=b
 |.bool a,b,h=>by cases b<;>simp_all [PV.same]
 |.int j a,b,h=>by
  cases b with
  |int k b=>
   simp only[PV.same,Bool.and_eq_true]at h
   have h1:j=k:=by simpa using h.1
   have h2:a=b:=by have:=h.2;rw[eqI_eq]at this;simpa using this
   rw[h1,h2]
  |_=>simp [PV.same]at h
 |.float j a,b,h=>by
  cases b with
  |float k b=>
   simp only[PV.same,Bool.and_eq_true,Nat.beq_eq]at h
   have h1:j=k:=by
    have:=h.1
    cases j<;>cases k<;>first|rfl|(simp [fkn]at this)
   rw[h1,h.2]
  |_=>simp [PV.same]at h
 |.str a,b,h=>by
  cases b with
  |str b=>
   have h':beqBytes a b=true:=by simpa [PV.same]using h
   rw[beqBytes_eq]at h'
   rw[of_decide_eq_true h']
  |_=>simp [PV.same]at h
 |.nilp,b,h=>by cases b<;>simp_all [PV.same]
 |.nils,b,h=>by cases b<;>simp_all [PV.same]
 |.nilm,b,h=>by cases b<;>simp_all [PV.same]
 |.nilf,b,h=>by cases b<;>simp_all [PV.same]
 |.nili,b,h=>by cases b<;>simp_all [PV.same]
 |.fn a,b,h=>by cases b<;>simp_all [PV.same]
 |.vec s a,b,h=>by
  cases b with
  |vec s' b=>
   simp only[PV.same,Bool.and_eq_true,Nat.beq_eq]at h
   rw[h.1,PV.sames_eq a b h.2]
  |_=>simp [PV.same]at h
 |.agg a,b,h=>by
  cases b with
  |agg b=>rw[PV.sames_eq a b (by simpa [PV.same]using h)]
  |_=>simp [PV.same]at h
 |.face t a,b,h=>by
  cases b with
  |face t' b=>
   simp only[PV.same,Bool.and_eq_true,Nat.beq_eq]at h
   rw[h.1,PV.same_eq a b h.2]
  |_=>simp [PV.same]at h
theorem PV.sames_eq:∀ (a b:List PV),PV.sames a b=true→a=b
 | [],b,h=>by cases b<;>simp_all [PV.sames]
 |x::a,b,h=>by
  cases b with
  |nil=>simp [PV.sames]at h
  |cons y b=>
   simp only[PV.sames,Bool.and_eq_true]at h
   rw[PV.same_eq x y h.1,PV.sames_eq a b h.2]
end
mutual
theorem AV.same_eq:∀ (a b:AV),AV.same a b=true→a=b
 |.un,b,h=>by cases b<;>simp_all [AV.same]
 |.p a,b,h=>by
  cases b with
  |p b=>rw[PV.same_eq a b (by simpa [AV.same]using h)]
  |_=>simp [AV.same]at h
 |.ptr i o,b,h=>by cases b<;>simp_all [AV.same]
 |.cptr a,b,h=>by
  cases b with
  |cptr b=>rw[PV.same_eq a b (by simpa [AV.same]using h)]
  |_=>simp [AV.same]at h
 |.sl i g s o n,b,h=>by cases b<;>simp_all [AV.same]
 |.el i g s o n,b,h=>by cases b<;>simp_all [AV.same]
 |.asl i o n s,b,h=>by cases b<;>simp_all [AV.same]
 |.full s a,b,h=>by
  cases b with
  |full s' b=>
   simp only[AV.same,Bool.and_eq_true,Nat.beq_eq]at h
   rw[h.1,PV.sames_eq a b h.2]
  |_=>simp [AV.same]at h
 |.func f a b,x,h=>by
  cases x with
  |func f' a' b'=>
   simp only[AV.same,Bool.and_eq_true,Nat.beq_eq]at h
   rw[h.1.1,AV.sames_eq a a' h.1.2,AV.sames_eq b b' h.2]
  |_=>simp [AV.same]at h
 |.yield i,b,h=>by cases b<;>simp_all [AV.same]
 |.face t a,b,h=>by
  cases b with
  |face t' b=>
   simp only[AV.same,Bool.and_eq_true,Nat.beq_eq]at h
   rw[h.1,AV.same_eq a b h.2]
  |_=>simp [AV.same]at h
 |.agg a,b,h=>by
  cases b with
  |agg b=>rw[AV.sames_eq a b (by simpa [AV.same]using h)]
  |_=>simp [AV.same]at h
 |.tup a,b,h=>by
  cases b with
  |tup b=>rw[AV.sames_eq a b (by simpa [AV.same]using h)]
  |_=>simp [AV.same]at h
 |.map i,b,h=>by cases b<;>simp_all [AV.same]
theorem AV.sames_eq:∀ (a b:List AV),AV.sames a b=true→a=b
 | [],b,h=>by cases b<;>simp_all [AV.sames]
 |x::a,b,h=>by
  cases b with
  |nil=>simp [AV.sames]at h
  |cons y b=>
   simp only[AV.sames,Bool.and_eq_true]at h
   rw[AV.same_eq x y h.1,AV.sames_eq a b h.2]
end
theorem looksSame_at{f:List Ob→Option AV} {v:AV}:∀ {l:List (List Ob)} {k:Nat} {h:List Ob},looksSame f v l=true→l[k]?=some h→f h=some v:=by
 intro l
 induction l with
 |nil=>intro k h _ hk;simp at hk
 |cons x l ih=>
  intro k h hs hk
  unfold looksSame at hs
  cases hf:f x with
  |none=>rw[hf]at hs;cases hs
  |some u=>
   rw[hf]at hs
   simp only at hs
   cases hu:AV.same u v with
   |false=>rw[hu]at hs;cases hs
   |true=>
    rw[hu]at hs
    cases k with
    |zero=>
     simp only[List.getElem?_cons_zero,Option.some.injEq]at hk
     subst hk
     rw[hf,AV.same_eq u v hu]
    |succ k=>exact ih hs (by simpa using hk)
theorem pendOk_at{m:Nat} {h:List Ob} {f:List Ob→Option AV} {v:AV} {hi:Nat}:∀ {ps:List Pend},pendOk m h ps=true → .mk f v hi∈ps→m≤hi→f h=some v:=by
 intro ps
 induction ps with
 |nil=>intro _ hm;simp at hm
 |cons p ps ih=>
  intro hp hm hle
  obtain⟨f',v',hi'⟩:=p
  unfold pendOk at hp
  rcases List.mem_cons.1 hm with hm|hm
  ·cases hm
   rw[Nat.ble_eq_true_of_le hle]at hp
   simp only[cond]at hp
   cases hl:looksSame f v [h]with
   |false=>rw[hl]at hp;cases hp
   |true=>exact looksSame_at (k:=0) hl rfl
  ·refine ih ?_ hm hle
   revert hp
   cases Nat.ble m hi'<;>simp only[cond]
   ·exact id
   ·cases looksSame f' v' [h]<;>simp
def Put(n:Nat) (dst:Option Tmp) (v:AV) (t t':Tm):Prop:=(∀ s,t'.get s=if dst=some s then v else t.get s)∧∀ d,dst=some d→d<n
theorem putK_put{n dst v t o} {k:Tm→Option Out} (h:putK n dst v t k=some o):∃ t',Put n dst v t t'∧k t'=some o:=by
 unfold putK at h
 cases dst with
 |none=>exact⟨t,⟨fun s=>by simp,fun d hd=>by cases hd⟩,h⟩
 |some d=>
  simp only at h
  cases hb:Nat.blt d n with
  |false=>rw[hb]at h;cases h
  |true=>
   rw[hb]at h
   simp only[cond,headA_eq,Tm.setK_eq]at h
   refine⟨_,⟨fun s=>?_,fun e he=>?_⟩,h⟩
   ·rw[Tm.get_set];simp [eq_comm]
   ·cases he;exact Nat.le_of_ble_eq_true hb
theorem put_putK{n dst v t t'} (h:Put n dst v t t') (k:Tm→Option Out):∃ t'',putK n dst v t k=k t''∧Put n dst v t t'':=by
 unfold putK
 cases dst with
 |none=>exact⟨t,rfl,fun s=>by simp,fun d hd=>by cases hd⟩
 |some d=>
  have hd:=h.2 d rfl
  have hb:Nat.blt d n=true:=by rw[blt_dec];simpa using hd
  refine⟨t.set d v,?_,fun s=>?_,fun e he=>?_⟩
  ·simp only[hb,cond,headA_eq,Tm.setK_eq]
  ·rw[Tm.get_set];simp [eq_comm]
  ·cases he;exact hd
theorem blurAll_get:∀ (l:List Tmp) (t:Tm) (s:Nat),(blurAll t l).get s=if s∈l then .un else t.get s:=by
 intro l
 induction l with
 |nil=>intro t s;simp [blurAll]
 |cons d l ih=>
  intro t s
  rw[blurAll,Tm.setK_eq,ih,Tm.get_set]
  by_cases h1:s∈l
  ·simp [h1]
  ·by_cases h2:s=d
   ·simp [h2]
   ·simp [h1,h2]
theorem dstsOf_mem{f:Nat→Bool} {d:Tmp}:∀ {l:List Oper} {i:Nat},d∈dstsOf f l i↔∃ k x,l[k]?=some x∧f (i+k)=true∧x.dst=some d:=by
 intro l
 induction l with
 |nil=>intro i;simp [dstsOf]
 |cons x l ih=>
  intro i
  have hrest:(∃ k y,(x::l)[k]?=some y∧f (i+k)=true∧y.dst=some d)↔(f i=true∧x.dst=some d)∨∃ k y,l[k]?=some y∧f (i+1+k)=true∧y.dst=some d:=by
   constructor
   ·rintro⟨k,y,h1,h2,h3⟩
    cases k with
    |zero=>
     simp only[List.getElem?_cons_zero,Option.some.injEq]at h1
     subst h1
     exact .inl ⟨h2,h3⟩
    |succ k=>exact .inr ⟨k,y,by simpa using h1,by rw[show i+1+k=i+(k+1) by omega];exact h2,h3⟩
   ·rintro(⟨h1,h2⟩|⟨k,y,h1,h2,h3⟩)
    ·exact⟨0,x,rfl,h1,h2⟩
    ·exact⟨k+1,y,by simpa using h1,by rw[show i+(k+1)=i+1+k by omega];exact h2,h3⟩
  rw[hrest,← ih,dstsOf]
  cases hf:f i with
  |false=>simp
  |true=>
   cases hd:x.dst with
   |none=>simp
   |some e=>simp [eq_comm]
theorem countA_le{f g:Nat→Bool}:∀ (l:List Oper) (i:Nat),(∀ k x,l[k]?=some x→isA x.op=true→f (i+k)=true→g (i+k)=true)→countA f l i≤countA g l i:=by
 intro l
 induction l with
 |nil=>intro i _;simp [countA]
 |cons x l ih=>
  intro i h
  have ih':=ih (i+1) fun k y hk ha hf=>by
   have:=h (k+1) y (by simpa using hk) ha (by rw[show i+(k+1)=i+1+k by omega];exact hf)
   rw[show i+(k+1)=i+1+k by omega]at this
   exact this
  unfold countA
  cases ha:isA x.op with
  |false=>simpa using ih'
  |true=>
   cases hf:f i with
   |false=>
    cases hg:g i with
    |false=>simpa using ih'
    |true=>simp;omega
   |true=>
    have:=h 0 x rfl ha hf
    rw[Nat.add_zero]at this
    rw[this]
    simpa using ih'
theorem countA_lt_zero(l:List Oper) (i c:Nat) (h:c≤i):countA (fun j=>decide (j<c)) l i=0:=by
 induction l generalizing i with
 |nil=>rfl
 |cons x l ih=>
  unfold countA
  rw[show decide (i<c)=false by simp;omega]
  simpa using ih (i+1) (by omega)
theorem countA_succ{x:Oper}:∀ (l:List Oper) (i c:Nat),l[c]?=some x→countA (fun j=>decide (j<i+c+1)) l i=countA (fun j=>decide (j<i+c)) l i+(if isA x.op=true then 1 else 0):=by
 intro l
 induction l with
 |nil=>intro i c h;simp at h
 |cons y l ih=>
  intro i c h
  cases c with
  |zero=>
   simp only[List.getElem?_cons_zero,Option.some.injEq]at h
   subst h
   unfold countA
   rw[countA_lt_zero l (i+1) (i+0+1) (by omega),countA_lt_zero l (i+1) (i+0) (by omega)]
   simp
  |succ c=>
   have:=ih (i+1) c (by simpa using h)
   unfold countA
   rw[show i+(c+1)+1=i+1+c+1 by omega,show i+(c+1)=i+1+c by omega,this]
   rw[show decide (i<i+1+c+1)=true by simp;omega,show decide (i<i+1+c)=true by simp;omega]
   cases isA y.op<;>simp<;>omega
end Go.Ai
namespace Go.Ai
open Go
theorem ev_agree{c:Ctx} {t t':Tm} {l:List Operand} (h:∀ s∈tmpsOf l,t.get s=t'.get s):∀ x∈l,ev c t x=ev c t' x:=by
  induction l with
  |nil=>intro x hx;cases hx
  |cons y l ih=>
    intro x hx
    rcases List.mem_cons.1 hx with e|hx
    · subst e
      cases x with
      |tmp i=>exact h i (List.mem_cons_self ..)
      |_=>rfl
    · refine ih (fun s hs=>h s ?_) x hx
      cases y with
      |tmp i=>exact List.mem_cons_of_mem _ hs
      |_=>exact hs
theorem evs_agree{c:Ctx} {t t':Tm}:∀ {l:List Operand},(∀ x∈l,ev c t x=ev c t' x)→evs c t l=evs c t' l:=by
  intro l
  induction l with
  |nil=>intro _;rfl
  |cons x l ih=>
    intro h
    show ev c t x::evs c t l=ev c t' x::evs c t' l
    rw[h x (List.mem_cons_self ..),ih fun y hy=>h y (List.mem_cons_of_mem _ hy)]
theorem evp_agree{c:Ctx} {t t':Tm}:∀ {l:List (Nat×Operand)},(∀ x∈l.map (·.2),ev c t x=ev c t' x)→evp c t l=evp c t' l:=by
  intro l
  induction l with
  |nil=>intro _;rfl
  |cons x l ih=>
    intro h
    obtain⟨i,x⟩:=x
    show(i,ev c t x)::evp c t l=(i,ev c t' x)::evp c t' l
    rw[h x (List.mem_cons_self ..),ih fun y hy=>h y (List.mem_cons_of_mem _ hy)]
theorem opD_agree{c:Ctx} {t t':Tm} {h:List Ob} {o:Op} (hl:isL o=true) (ha:∀ x∈o.operands.toList,ev c t x=ev c t' x):opD o c t h=opD o c t' h:=by
  cases o with
  |move x=>exact congrArg VH.w (ha x (by simp [Op.operands]))
  |assign x=>exact congrArg VH.w (ha x (by simp [Op.operands]))
  |pick k a b=>
    have h1:=ha k (by simp [Op.operands]);have h2:=ha a (by simp [Op.operands]);have h3:=ha b (by simp [Op.operands])
    simp only[opD,oPick,h1,h2,h3]
  |build ty ps=>
    have h1:evp c t ps.toList=evp c t' ps.toList:=evp_agree fun x hx=>ha x (by simpa [Op.operands]using hx)
    simp only[opD,oBuild,h1]
  |nilCheck x=>have h1:=ha x (by simp [Op.operands]);simp only[opD,oNilCheck,h1]
  |binOp op ty x y yt=>have h1:=ha x (by simp [Op.operands]);have h2:=ha y (by simp [Op.operands]);simp only[opD,oBin,h1,h2]
  |unOp op ty x=>have h1:=ha x (by simp [Op.operands]);simp only[opD,oUn,h1]
  |makeInterface ty x=>have h1:=ha x (by simp [Op.operands]);simp only[opD,oFace,h1]
  |makeFunc fn first cap=>
    have h1:evs c t first.toList=evs c t' first.toList:=evs_agree fun x hx=>ha x (by simp only[Op.operands,Array.toList_append,List.mem_append];exact .inl hx)
    have h2:evs c t cap.toList=evs c t' cap.toList:=evs_agree fun x hx=>ha x (by simp only[Op.operands,Array.toList_append,List.mem_append];exact .inr hx)
    show oMakeFunc fn first cap c t h=oMakeFunc fn first cap c t' h
    unfold oMakeFunc
    generalize first.toList=a at h1 ⊢
    generalize cap.toList=b at h2 ⊢
    cases fn with
    |func f=>
      cases a with
      |nil=>cases b with
        |nil=>rfl
        |cons y m=>show VH.w (.func f (evs c t []) (evs c t (y::m)))=VH.w (.func f (evs c t' []) (evs c t' (y::m)));rw[h2];rfl
      |cons x l=>show VH.w (.func f (evs c t (x::l)) (evs c t b))=VH.w (.func f (evs c t' (x::l)) (evs c t' b));rw[h1,h2]
    |_=>rfl
  |slice ty x lo hi mx=>
    have h1:=ha x (by simp [Op.operands])
    have ho:∀ (y:Option Operand),(∀ z∈y,ev c t z=ev c t' z)→evo c t y=evo c t' y:=by
      intro y hy
      cases y with
      |none=>rfl
      |some z=>exact congrArg some (hy z rfl)
    have h2:=ho lo fun z hz=>ha z (by cases hz;simp [Op.operands])
    have h3:=ho hi fun z hz=>ha z (by cases hz;simp [Op.operands])
    cases mx with
    |none=>simp only[opD,oSlice,h1,h2,h3]
    |some m=>have h4:=ha m (by simp [Op.operands]);simp only[opD,oSlice,h1,h2,h3,h4]
  |fieldAddr s x f=>have h1:=ha x (by simp [Op.operands]);simp only[opD,oFieldAddr,h1]
  |field s x f=>have h1:=ha x (by simp [Op.operands]);simp only[opD,oField,h1]
  |indexAddr ty x i=>have h1:=ha x (by simp [Op.operands]);have h2:=ha i (by simp [Op.operands]);simp only[opD,oIndexAddr,h1,h2]
  |index ty x i=>have h1:=ha x (by simp [Op.operands]);have h2:=ha i (by simp [Op.operands]);simp only[opD,oIndex,h1,h2]
  |typeAssert x ty a ok=>have h1:=ha x (by simp [Op.operands]);simp only[opD,oAssert,h1]
  |extract x i=>have h1:=ha x (by simp [Op.operands]);simp only[opD,oExtract,h1]
  |load ty a=>have h1:=ha a (by simp [Op.operands]);simp only[opD,oLoad,h1]
  |convert s d x=>have h1:=ha x (by simp [Op.operands]);simp only[opD,oConvert,h1]
  |lookup ty x k ok=>have h1:=ha x (by simp [Op.operands]);have h2:=ha k (by simp [Op.operands]);simp only[opD,oLookup,h1,h2]
  |call cl=>
    obtain⟨cal,args,tys⟩:=cl
    cases cal with
    |builtin b=>
      have hx:∀ x∈args.toList,ev c t x=ev c t' x:=fun x hx=>ha x (by simpa [Op.operands,Call.operands]using hx)
      show builtinD b args.toList tys.toList c t h=builtinD b args.toList tys.toList c t' h
      cases b<;>first|(cases hl;done)|skip
      all_goals
        generalize args.toList=as at hx ⊢
        generalize tys.toList=ts
        rcases as with _|⟨x,_|⟨y,_|⟨z,l⟩⟩⟩
        · rfl
        · have h1:=hx x (List.mem_cons_self ..)
          rcases ts with _|⟨a,_|⟨b,m⟩⟩
          all_goals first
            |rfl
            | (show oLen a x c t h = oLen a x c t' h
               simp only[oLen,h1])
        · have h1:=hx x (List.mem_cons_self ..)
          have h2:=hx y (List.mem_cons_of_mem _ (List.mem_cons_self ..))
          first
            |rfl
            | (show oMM true x y c t h = oMM true x y c t' h
               simp only[oMM,h1,h2])
            | (show oMM false x y c t h = oMM false x y c t' h
               simp only[oMM,h1,h2])
        · rfl
    |_=>cases hl
  |_=>cases hl
theorem look_agree{c:Ctx} {all:List Oper} {o:Oper} {t t':Tm} (hl:isL o.op=true) (ha:∀ s∈readsOf all o,t.get s=t'.get s):lookV c all o t=lookV c all o t':=by
  funext h
  have h1:opD o.op c t h=opD o.op c t' h:=opD_agree hl (ev_agree fun s hs=>ha s (List.mem_append_right _ hs))
  have h2:wanted? all t o.guard=wanted? all t' o.guard:=by
    cases hg:o.guard with
    |none=>rfl
    |some x=>
      obtain⟨j,w⟩:=x
      cases hd:(all[j]?).bind (·.dst)with
      |none=>simp only[wanted?,hd]
      |some d=>
        have:=ha d (List.mem_append_left _ (by simp only[hg,hd];exact List.mem_singleton.2 rfl))
        simp only[wanted?,hd,this]
  unfold lookV
  rw[h1,h2]
theorem look_narrow{c:Ctx} {all:List Oper} {o:Oper} {t:Tm} {blank:List Tmp} (hl:isL o.op=true):lookV c all o (blurAll t (narrow (readsOf all o) blank))=lookV c all o (blurAll t blank):=by
  refine look_agree hl fun s hs=>?_
  rw[blurAll_get,blurAll_get]
  have:s∈narrow (readsOf all o) blank↔s∈blank:=by
    unfold narrow
    rw[List.mem_filter,elemN_iff]
    exact⟨fun h=>h.1,fun h=>⟨h,hs⟩⟩
  by_cases e:s∈blank
  · rw[if_pos (this.2 e),if_pos e]
  · rw[if_neg (fun q=>e (this.1 q)),if_neg e]
end Go.Ai
namespace Go.Ai
open Go Go.RowKit
structure DS where
 m:Nat
 hs:List (List Ob)
 ps:List Pend
 zs:List AV
 dd:Dead
 t:Tm
 h:List Ob
 d:List AD
 r:Option RM
inductive DStep (E:Env) (all:List Oper) (b:List Nat) (i:Nat) (o:Oper):DK→DS→DS→Prop
 |z {s:DS} {v zs t'} (hz:s.zs=v::zs) (hd:deadBefore b s.dd i=false) (hp:Put E.n o.dst v s.t t'):DStep E all b i o .Z s {s with zs:=zs,t:=t'}
 |zskip {s:DS} {v zs} (hz:s.zs=v::zs) (hd:deadBefore b s.dd i=true):DStep E all b i o .Z s {s with zs:=zs}
 |l {s:DS} {v t' lo hi blank} (hd:deadBefore b s.dd i=false) (hv:lookV E.c all o (blurAll s.t blank) s.h=some v)
   (hs:looksSame (lookV E.c all o (blurAll s.t blank)) v ((s.hs.drop 1).take (s.m-lo))=true) (hp:Put E.n o.dst v s.t t') :
   DStep E all b i o (.L lo hi blank) s {s with ps:=(cond (Nat.blt s.m hi) (.mk (lookV E.c all o (blurAll s.t blank)) v hi::s.ps) s.ps),t:=t'}
 |lskip {s:DS} {lo hi blank} (hd:deadBefore b s.dd i=true):DStep E all b i o (.L lo hi blank) s s
 |adead {s:DS} {x blur blank} (hd:s.dd=some x):DStep E all b i o (.A blur blank) s s
 |a {s:DS} {blur blank t1 h1 d1 r1 t'} (hd:s.dd=none) (hx:opStep E all o (fun t h d r=>some (.mk .n t h d r)) (blurAll s.t blank) s.h s.d s.r=some (.mk .n t1 h1 d1 r1))
   (hpend:pendOk (s.m+1) h1 s.ps=true) (hp:Put E.n o.dst (match o.dst with|some e=>t1.get e|none=>undefA) s.t t') :
   DStep E all b i o (.A blur blank) s {s with m:=s.m+1,hs:=h1::s.hs,t:=t',h:=h1,d:=d1,r:=r1}
 |aexit {s:DS} {blur blank e t1 h1 d1 r1} (hd:s.dd=none) (he:e ≠ .n)
   (hx:opStep E all o (fun t h d r=>some (.mk .n t h d r)) (blurAll s.t blank) s.h s.d s.r=some (.mk e t1 h1 d1 r1)) :
   DStep E all b i o (.A blur blank) s {s with dd:=some (i,.mk e (blurAll s.t blur) h1 d1 r1)}
def DS.fin(s:DS):Out:=match s.dd with|some (_,o)=>o|none=>.mk .n s.t s.h s.d s.r
theorem drawStep_ok{E:Env} {all:List Oper} {b:List Nat} {i:Nat} {o:Oper} {k:DK} {ih:KD} {s:DS} {out:Out}
  (h:drawStep E all b i o k ih s.m s.hs s.ps s.zs s.dd s.t s.h s.d s.r=some out) :
  ∃ s':DS,DStep E all b i o k s s'∧ih s'.m s'.hs s'.ps s'.zs s'.dd s'.t s'.h s'.d s'.r=some out:=by
 unfold drawStep at h
 cases k with
 |Z=>
  simp only at h
  cases hz:s.zs with
  |nil=>rw[hz]at h;cases h
  |cons v zs=>
   rw[hz]at h
   simp only at h
   cases hd:deadBefore b s.dd i with
   |true=>rw[hd]at h;exact⟨_,.zskip hz hd,h⟩
   |false=>
    rw[hd]at h
    simp only[cond]at h
    obtain⟨t',hp,hk⟩:=putK_put h
    exact⟨_,.z hz hd hp,hk⟩
 |L lo hi blank=>
  simp only at h
  cases hd:deadBefore b s.dd i with
  |true=>rw[hd]at h;exact⟨_,.lskip hd,h⟩
  |false=>
   rw[hd]at h
   simp only[cond]at h
   cases hv:lookV E.c all o (blurAll s.t blank) s.h with
   |none=>rw[hv]at h;cases h
   |some v=>
    rw[hv]at h
    simp only at h
    cases hs:looksSame (lookV E.c all o (blurAll s.t blank)) v ((s.hs.drop 1).take (s.m-lo))with
    |false=>rw[hs]at h;cases h
    |true=>
     rw[hs]at h
     simp only at h
     obtain⟨t',hp,hk⟩:=putK_put h
     exact⟨_,.l hd hv hs hp,hk⟩
 |A blur blank=>
  simp only at h
  cases hd:s.dd with
  |some x=>rw[hd]at h;refine⟨s,.adead hd,?_⟩;rw[hd];exact h
  |none=>
   rw[hd]at h
   simp only at h
   unfold actK at h
   cases hx:opStep E all o (fun t h d r=>some (.mk .n t h d r)) (blurAll s.t blank) s.h s.d s.r with
   |none=>rw[hx]at h;cases h
   |some q=>
    rw[hx]at h
    obtain⟨e,t1,h1,d1,r1⟩:=q
    cases e with
    |n=>
     simp only at h
     cases hp:pendOk (s.m+1) h1 s.ps with
     |false=>rw[hp]at h;cases h
     |true=>
      rw[hp]at h
      simp only[cond]at h
      obtain⟨t',hp',hk⟩:=putK_put h
      exact⟨_,.a hd hx hp hp',by simp only[hd];exact hk⟩
    |exit id=>exact⟨_,.aexit hd (by simp) hx,h⟩
    |ret=>exact⟨_,.aexit hd (by simp) hx,h⟩
    |pan v=>exact⟨_,.aexit hd (by simp) hx,h⟩
theorem drawRun_ok{E:Env} {all:List Oper} {b:List Nat}:∀ (l:List Oper) (ks:List DK) (i:Nat) (s:DS) {out:Out},ks.length=l.length →
  drawRun E all b i l ks s.m s.hs s.ps s.zs s.dd s.t s.h s.d s.r=some out →
  ∃ S:Nat→DS,S 0=s∧(∀ k o κ,l[k]?=some o→ks[k]?=some κ→DStep E all b (i+k) o κ (S k) (S (k+1)))∧out=(S l.length).fin:=by
 intro l
 induction l with
 |nil=>
  intro ks i s out hlen h
  refine⟨fun _=>s,rfl,fun k o κ hk=>by simp at hk,?_⟩
  have h':(match s.dd with|some (_,o)=>some o|none=>some (.mk .n s.t s.h s.d s.r))=some out:=by
   cases ks with
   |nil=>exact h
   |cons k ks=>simp at hlen
  unfold DS.fin
  cases hd:s.dd with
  |none=>rw[hd]at h';cases h';simp [hd]
  |some x=>obtain⟨q,o⟩:=x;rw[hd]at h';cases h';simp [hd]
 |cons o l ih=>
  intro ks i s out hlen h
  cases ks with
  |nil=>simp at hlen
  |cons κ ks=>
   obtain⟨s',h1,h2⟩:=drawStep_ok (ih:=drawRun E all b (i+1) l ks) h
   obtain⟨S,g1,g2,g3⟩:=ih ks (i+1) s' (by simpa using hlen) h2
   refine⟨fun k=>match k with|0=>s|k+1=>S k,rfl,?_,g3⟩
   intro k o' κ' hk hκ
   cases k with
   |zero=>
    simp only[List.getElem?_cons_zero,Option.some.injEq]at hk hκ
    subst hk;subst hκ
    show DStep E all b (i+0) _ _ s (S 0)
    rw[g1];exact h1
   |succ k=>
    have:=g2 k o' κ' (by simpa using hk) (by simpa using hκ)
    rw[show i+(k+1)=i+1+k by omega]
    exact this
noncomputable def Hp(c:Ctx) (all:List Oper) (h0:List Ob):Nat→List Ob
 |0=>h0
 |i+1=>match all[i]? with
  |some o=>if isZ o.op then(match opD o.op c .lf (Hp c all h0 i)with | .wn _ ob=>Hp c all h0 i++[ob]|_=>Hp c all h0 i)else Hp c all h0 i
  |none=>Hp c all h0 i
theorem Hp_pre(c all h0):∀ (j i:Nat),i≤j→∃ r,Hp c all h0 j=Hp c all h0 i++r:=by
 intro j
 induction j with
 |zero=>intro i hi;exact⟨[],by rw[show i=0 by omega];simp⟩
 |succ j ih=>
  intro i hi
  by_cases e:i=j+1
  ·exact⟨[],by subst e;simp⟩
  ·obtain⟨r,hr⟩:=ih i (by omega)
   have:∃ r',Hp c all h0 (j+1)=Hp c all h0 j++r':=by
    show ∃ r',(match all[j]? with
     |some o=>if isZ o.op then(match opD o.op c .lf (Hp c all h0 j)with | .wn _ ob=>Hp c all h0 j++[ob]|_=>Hp c all h0 j)else Hp c all h0 j
     |none=>Hp c all h0 j)=_
    split
    ·split
     ·split
      ·exact⟨_,rfl⟩
      ·exact⟨[],by simp⟩
     ·exact⟨[],by simp⟩
    ·exact⟨[],by simp⟩
   obtain⟨r',hr'⟩:=this
   exact⟨r++r',by rw[hr',hr];simp⟩
structure Hoisted (c:Ctx) (all:List Oper) (h0:List Ob) (S:Nat→DS):Prop where
 vars:∀ i o,all[i]?=some o→isZ o.op=true→∃ v ob,opD o.op c .lf (Hp c all h0 i)=.wn v ob∧(S i).zs.head?=some v∧Hp c all h0 (i+1)=Hp c all h0 i++[ob]
 fin:(S 0).h=Hp c all h0 all.length
theorem isA_false_of_Z{o:Op} (h:isZ o=true):isA o=false:=by unfold isA;rw[h];simp
theorem isA_false_of_L{o:Op} (h:isL o=true):isA o=false:=by unfold isA;rw[h];simp
theorem kinds_at{all:List Oper} {b:List Nat}:∀ (l:List Oper) (i k:Nat) (o:Oper),l[k]?=some o→(kinds all b l i)[k]?=some (kindOf' all b o (i+k)):=by
 intro l
 induction l with
 |nil=>intro i k o h;simp at h
 |cons x l ih=>
  intro i k o h
  cases k with
  |zero=>
   simp only[List.getElem?_cons_zero,Option.some.injEq]at h
   subst h;rfl
  |succ k=>
   have:=ih (i+1) k o (by simpa using h)
   rw[show i+(k+1)=i+1+k by omega]
   exact this
theorem kinds_length{all:List Oper} {b:List Nat}:∀ (l:List Oper) (i:Nat),(kinds all b l i).length=l.length:=by
 intro l
 induction l with
 |nil=>intro i;rfl
 |cons x l ih=>intro i;simp [kinds,ih]
structure Trace (E:Env) (all:List Oper) (b:List Nat) (h0:List Ob) (S:Nat→DS):Prop where
 ord:Ordd all b
 step:∀ i o,all[i]?=some o→DStep E all b i o (kindOf' all b o i) (S i) (S (i+1))
 m0:(S 0).m=0
 hs0:(S 0).hs=[(S 0).h]
 dd0:(S 0).dd=none
 hoisted:Hoisted E.c all h0 S
theorem trace_of{E:Env} {all:List Oper} {t h d r out} (h1:drawReg E all (drawInfo all) t h d r=some out) :
  ∃ S:Nat→DS,Trace E all (befores all []) h S∧(S 0).t=t∧(S 0).d=d∧(S 0).r=r∧out=(S all.length).fin:=by
 unfold drawReg drawInfo at h1
 simp only at h1
 cases hp:pairsOk all (befores all []) all 0 with
 |false=>rw[hp]at h1;cases h1
 |true=>
  rw[hp]at h1
  simp only[cond]at h1
  cases hh:hoist E.c all h with
  |none=>rw[hh]at h1;cases h1
  |some x=>
   obtain⟨zs,H⟩:=x
   rw[hh]at h1
   obtain⟨S,g1,g2,g3⟩:=drawRun_ok all (kinds all (befores all []) all 0) 0 ⟨0,[H],[],zs,none,t,H,d,r⟩ (kinds_length _ _) h1
   have step:∀ i o,all[i]?=some o→DStep E all (befores all []) i o (kindOf' all (befores all []) o i) (S i) (S (i+1)):=by
    intro i o hi
    have:=g2 i o _ hi (kinds_at all 0 i o hi)
    simpa using this
   have O:=ord_of hp
   -- the variables
   have key : ∀ i, i ≤ all.length → hoist E.c (all.drop i) (Hp E.c all h i) = some ((S i).zs, H) ∧
     ∀ j,j<i→∀ o,all[j]?=some o→isZ o.op=true→∃ v ob,opD o.op E.c .lf (Hp E.c all h j)=.wn v ob∧(S j).zs.head?=some v∧Hp E.c all h (j+1)=Hp E.c all h j++[ob]:=by
    intro i
    induction i with
    |zero=>intro _;refine⟨?_,fun j hj=>by omega⟩;rw[g1];exact hh
    |succ i ih=>
     intro hi
     obtain⟨e1,e2⟩:=ih (by omega)
     have hlt:i<all.length:=by omega
     have hio:all[i]?=some all[i]:=List.getElem?_eq_getElem hlt
     rw[List.drop_eq_getElem_cons hlt]at e1
     have st:=step i _ hio
     unfold hoist at e1
     cases hz:isZ all[i].op with
     |true=>
      rw[hz]at e1
      simp only[cond]at e1
      cases hop:opD all[i].op E.c .lf (Hp E.c all h i)with
      |wn v ob=>
       rw[hop]at e1
       simp only[lnf_eq]at e1
       have hHp:Hp E.c all h (i+1)=Hp E.c all h i++[ob]:=by
        show(match all[i]? with
         |some o=>if isZ o.op then(match opD o.op E.c .lf (Hp E.c all h i)with | .wn _ ob=>Hp E.c all h i++[ob]|_=>Hp E.c all h i)else Hp E.c all h i
         |none=>Hp E.c all h i)=_
        rw[hio];simp [hz,hop]
       cases hrec:hoist E.c (all.drop (i+1)) (Hp E.c all h i++[ob])with
       |none=>rw[hrec]at e1;cases e1
       |some y=>
        obtain⟨zs',H'⟩:=y
        rw[hrec]at e1
        simp only[Option.some.injEq,Prod.mk.injEq]at e1
        obtain⟨e3,rfl⟩:=e1
        have hk:kindOf' all (befores all []) all[i] i=.Z:=by unfold kindOf';rw[hz];rfl
        rw[hk]at st
        have hzs:(S (i+1)).zs=zs':=by
         generalize S (i+1)=s' at st
         cases st with
         |z hz' hd hp'=>rw[← e3]at hz';cases hz';rfl
         |zskip hz' hd=>rw[← e3]at hz';cases hz';rfl
        refine⟨by rw[hHp,hrec,hzs],?_⟩
        intro j hj o hjo hjz
        by_cases e:j=i
        ·subst e
         rw[hio]at hjo
         cases hjo
         exact⟨v,ob,hop,by rw[← e3];rfl,hHp⟩
        ·exact e2 j (by omega) o hjo hjz
      |_=>rw[hop]at e1;cases e1
     |false=>
      rw[hz]at e1
      simp only[cond]at e1
      have hHp:Hp E.c all h (i+1)=Hp E.c all h i:=by
       show(match all[i]? with
        |some o=>if isZ o.op then(match opD o.op E.c .lf (Hp E.c all h i)with | .wn _ ob=>Hp E.c all h i++[ob]|_=>Hp E.c all h i)else Hp E.c all h i
        |none=>Hp E.c all h i)=_
       rw[hio];simp [hz]
      have hzs:(S (i+1)).zs=(S i).zs:=by
       have hk:kindOf' all (befores all []) all[i] i ≠ .Z:=by
        unfold kindOf';rw[hz];simp only[cond];cases isL all[i].op<;>simp
       generalize kindOf' all (befores all []) all[i] i=κ at st hk
       generalize S (i+1)=s' at st
       cases st<;>first|rfl|exact absurd rfl hk
      refine⟨by rw[hHp,hzs];exact e1,?_⟩
      intro j hj o hjo hjz
      by_cases e:j=i
      ·subst e
       rw[hio]at hjo
       cases hjo
       rw[hz]at hjz;cases hjz
      ·exact e2 j (by omega) o hjo hjz
   have keyN:=key all.length (Nat.le_refl _)
   have hfin:H=Hp E.c all h all.length:=by
    have:=keyN.1
    rw[List.drop_length]at this
    simp only[hoist,Option.some.injEq,Prod.mk.injEq]at this
    exact this.2.symm
   refine⟨S,⟨O,step,by rw[g1],by rw[g1],by rw[g1],⟨?_,by rw[g1];exact hfin⟩⟩,by rw[g1],by rw[g1],by rw[g1],g3⟩
   intro i o hi hz
   have hlt:i<all.length:=(List.getElem?_eq_some_iff.1 hi).1
   exact keyN.2 i hlt o hi hz
section
variable {E:Env} {all:List Oper} {b:List Nat} {h0:List Ob} {S:Nat→DS}
theorem Trace.dd_mono(T:Trace E all b h0 S):∀ (j i:Nat),i≤j→j≤all.length→(S j).dd=none→(S i).dd=none:=by
 intro j
 induction j with
 |zero=>intro i hi _ h;rw[show i=0 by omega];exact h
 |succ j ih=>
  intro i hi hj h
  by_cases e:i=j+1
  ·subst e;exact h
  ·refine ih i (by omega) (by omega) ?_
   have st:=T.step j _ (List.getElem?_eq_getElem (by omega))
   generalize S (j+1)=s' at st h
   generalize kindOf' all b all[j] j=κ at st
   cases st with
   |aexit=>cases h
   |adead hd=>exact h
   |a hd=>exact hd
   |_=>exact h
theorem Trace.t_keep(T:Trace E all b h0 S) {i:Nat} {o:Oper} (hi:all[i]?=some o) {s:Tmp} (hs:o.dst ≠ some s):(S (i+1)).t.get s=(S i).t.get s:=by
 have st:=T.step i o hi
 generalize S (i+1)=s' at st
 generalize kindOf' all b o i=κ at st
 cases st with
 |z hz hd hp=>rw[hp.1 s,if_neg hs]
 |l hd hv hsm hp=>rw[hp.1 s,if_neg hs]
 |a hd hx hpend hp=>rw[hp.1 s,if_neg hs]
 |_=>rfl
theorem Trace.t_between(T:Trace E all b h0 S) {s:Tmp}:∀ (j i:Nat),i≤j→j≤all.length→(∀ k o,i≤k→k<j→all[k]?=some o→o.dst ≠ some s)→(S j).t.get s=(S i).t.get s:=by
 intro j
 induction j with
 |zero=>intro i hi _ _;rw[show i=0 by omega]
 |succ j ih=>
  intro i hi hj h
  by_cases e:i=j+1
  ·subst e;rfl
  ·have hjo:all[j]?=some all[j]:=List.getElem?_eq_getElem (by omega)
   rw[T.t_keep hjo (h j _ (by omega) (by omega) hjo)]
   exact ih i (by omega) (by omega) fun k o h1 h2=>h k o h1 (by omega)
theorem Trace.head(T:Trace E all b h0 S):∀ i,i≤all.length→(S i).hs[0]?=some (S i).h:=by
 intro i
 induction i with
 |zero=>intro _;rw[T.hs0];rfl
 |succ i ih=>
  intro hi
  have st:=T.step i _ (List.getElem?_eq_getElem (by omega))
  have ih:=ih (by omega)
  generalize S (i+1)=s' at st
  generalize kindOf' all b all[i] i=κ at st
  cases st with
  |a=>rfl
  |_=>exact ih
theorem Trace.m_mono(T:Trace E all b h0 S) {c:Nat}:∀ i,c≤i→i≤all.length→(S c).m≤(S i).m∧(S i).hs[(S i).m-(S c).m]?=some (S c).h:=by
 intro i
 induction i with
 |zero=>intro hc _;rw[show c=0 by omega];exact⟨Nat.le_refl _,by rw[Nat.sub_self];exact T.head 0 (by omega)⟩
 |succ i ih=>
  intro hc hi
  by_cases e:c=i+1
  ·subst e;exact⟨Nat.le_refl _,by rw[Nat.sub_self];exact T.head _ hi⟩
  ·have st:=T.step i _ (List.getElem?_eq_getElem (by omega))
   obtain⟨h1,h2⟩:=ih (by omega) (by omega)
   generalize S (i+1)=s' at st
   generalize kindOf' all b all[i] i=κ at st
   cases st with
   |a=>
    refine⟨by show(S c).m≤(S i).m+1;omega,?_⟩
    show(_::(S i).hs)[(S i).m+1-(S c).m]?=_
    rw[show(S i).m+1-(S c).m=((S i).m-(S c).m)+1 by omega,List.getElem?_cons_succ]
    exact h2
   |_=>exact⟨h1,h2⟩
theorem Trace.m_count(T:Trace E all b h0 S):∀ i,i≤all.length→(S i).dd=none→(S i).m=countA (fun j=>decide (j<i)) all 0:=by
 intro i
 induction i with
 |zero=>intro _ _;rw[T.m0,countA_lt_zero all 0 0 (Nat.le_refl _)]
 |succ i ih=>
  intro hi hd
  have hio:all[i]?=some all[i]:=List.getElem?_eq_getElem (by omega)
  have st:=T.step i _ hio
  have ih:=ih (by omega) (T.dd_mono (i+1) i (by omega) hi hd)
  have hc:=countA_succ all 0 i hio
  rw[Nat.zero_add]at hc
  rw[hc,← ih]
  have hA:isA all[i].op=true↔∃ x y,kindOf' all b all[i] i=.A x y:=by
   unfold kindOf' isA
   cases isZ all[i].op<;>cases isL all[i].op<;>simp
  generalize S (i+1)=s' at st hd
  generalize hκ:kindOf' all b all[i] i=κ at st hA
  cases st with
  |a=>rw[if_pos (hA.2 ⟨_,_,rfl⟩)]
  |adead hd'=>rw[hd']at hd;cases hd
  |aexit=>cases hd
  |z=>rw[if_neg (fun hh=>by obtain⟨x,y,hxy⟩:=hA.1 hh;cases hxy)];rfl
  |zskip=>rw[if_neg (fun hh=>by obtain⟨x,y,hxy⟩:=hA.1 hh;cases hxy)];rfl
  |l=>rw[if_neg (fun hh=>by obtain⟨x,y,hxy⟩:=hA.1 hh;cases hxy)];rfl
  |lskip=>rw[if_neg (fun hh=>by obtain⟨x,y,hxy⟩:=hA.1 hh;cases hxy)];rfl
theorem Trace.pend(T:Trace E all b h0 S) {i:Nat} {p:Pend}:∀ j,i≤j→j≤all.length→p∈(S i).ps→p∈(S j).ps:=by
 intro j
 induction j with
 |zero=>intro hi _ h;rw[show i=0 by omega]at h;exact h
 |succ j ih=>
  intro hi hj h
  by_cases e:i=j+1
  ·subst e;exact h
  ·have ih:=ih (by omega) (by omega) h
   have st:=T.step j _ (List.getElem?_eq_getElem (by omega))
   generalize S (j+1)=s' at st
   generalize kindOf' all b all[j] j=κ at st
   cases st with
   |l=>
    show p∈cond _ _ _
    cases Nat.blt (S j).m _
    ·exact ih
    ·exact List.mem_cons_of_mem _ ih
   |_=>exact ih
theorem Trace.h_keep(T:Trace E all b h0 S) {c:Nat}:∀ i,c≤i→i≤all.length→(∀ k o,c≤k→k<i→all[k]?=some o→isA o.op=false) →
  (S i).h=(S c).h∧(S i).d=(S c).d∧(S i).r=(S c).r∧((S c).dd=none→(S i).dd=none):=by
 intro i
 induction i with
 |zero=>intro hc _ _;rw[show c=0 by omega];exact⟨rfl,rfl,rfl,id⟩
 |succ i ih=>
  intro hc hi h
  by_cases e:c=i+1
  ·subst e;exact⟨rfl,rfl,rfl,id⟩
  ·have hio:all[i]?=some all[i]:=List.getElem?_eq_getElem (by omega)
   have st:=T.step i _ hio
   obtain⟨h1,h2,h3,h4⟩:=ih (by omega) (by omega) fun k o k1 k2=>h k o k1 (by omega)
   have hna:=h i _ (by omega) (by omega) hio
   have hk:∀ x y,kindOf' all b all[i] i ≠ .A x y:=by
    intro x y
    unfold isA at hna
    unfold kindOf'
    cases hz:isZ all[i].op<;>cases hl:isL all[i].op<;>simp_all
   generalize S (i+1)=s' at st
   generalize kindOf' all b all[i] i=κ at st hk
   cases st with
   |a=>exact absurd rfl (hk _ _)
   |adead=>exact absurd rfl (hk _ _)
   |aexit=>exact absurd rfl (hk _ _)
   |_=>exact⟨h1,h2,h3,h4⟩
theorem Trace.look(T:Trace E all b h0 S) {i:Nat} {o:Oper} (hi:all[i]?=some o) (hl:isL o.op=true) (hz:isZ o.op=false) (hnd:deadBefore b (S i).dd i=false) {c:Nat}
  (hc:c≤all.length) (hcd:(S c).dd=none) (hlo:∀ k x,all[k]?=some x→isA x.op=true→ordered b k i=true→k<c)
  (hhi:∀ k x,all[k]?=some x→isA x.op=true→k<c→ordered b i k=false) :
  ∃ v,lookV E.c all o (blurAll (S i).t (blankOf all b i)) (S c).h=some v∧Put E.n o.dst v (S i).t (S (i+1)).t∧(S (i+1)).dd=(S i).dd:=by
 have hlt:i<all.length:=(List.getElem?_eq_some_iff.1 hi).1
 have st:=T.step i o hi
 have hk:kindOf' all b o i=.L (countA (fun j=>ordered b j i) all 0) (countA (fun j=>!ordered b i j) all 0) (narrow (readsOf all o) (blankOf all b i)):=by
  unfold kindOf';rw[hz,hl];rfl
 rw[hk]at st
 rw[← look_narrow hl]
 have hmc:=T.m_count c hc hcd
 have hlo':countA (fun j=>ordered b j i) all 0≤(S c).m:=by
  rw[hmc]
  refine countA_le all 0 fun k x hk ha ho=>?_
  rw[Nat.zero_add]at ho ⊢
  simpa using hlo k x hk ha ho
 have hhi':(S c).m≤countA (fun j=>!ordered b i j) all 0:=by
  rw[hmc]
  refine countA_le all 0 fun k x hk ha ho=>?_
  rw[Nat.zero_add]at ho ⊢
  rw[hhi k x hk ha (by simpa using ho)];rfl
 generalize hs':S (i+1)=s' at st
 cases st with
 |lskip hd=>rw[hnd]at hd;cases hd
 | @l _ v t' _ _ _ hd hv hsm hp=>
  refine⟨v,?_,hp,rfl⟩
  by_cases hci:c≤i
  ·obtain⟨h1,h2⟩:=T.m_mono i hci (by omega)
   by_cases e:(S i).m=(S c).m
   ·rw[e,Nat.sub_self,T.head i (by omega)]at h2
    rw[← Option.some.inj h2]
    exact hv
   ·refine looksSame_at (k:=(S i).m-(S c).m-1) hsm ?_
    rw[List.getElem?_take,if_pos (by omega),List.getElem?_drop,show 1+((S i).m-(S c).m-1)=(S i).m-(S c).m by omega]
    exact h2
  ·have hcl:∀ c',i+1≤c'→c'≤all.length→(S c').dd=none→(S c').m≤countA (fun j=>!ordered b i j) all 0→lookV E.c all o (blurAll (S i).t (narrow (readsOf all o) (blankOf all b i))) (S c').h=some v:=by
    intro c'
    induction c' with
    |zero=>intro h;omega
    |succ c' ih=>
     intro h1 h2 h3 h4
     by_cases e:c'=i
     ·subst e
      rw[hs'];exact hv
     ·have hd':=T.dd_mono (c'+1) c' (by omega) h2 h3
      have hjo:all[c']?=some all[c']:=List.getElem?_eq_getElem (by omega)
      have st:=T.step c' _ hjo
      generalize S (c'+1)=s'' at st h3 h4
      generalize kindOf' all b all[c'] c'=κ at st
      cases st with
      | @a _ _ _ t1 h1' d1 r1 t'' hd'' hx hpend hp'=>
       refine pendOk_at (hi:=countA (fun j=>!ordered b i j) all 0) hpend ?_ h4
       refine T.pend (i:=i+1) c' (by omega) (by omega) ?_
       rw[hs']
       have hlt':(S i).m<countA (fun j=>!ordered b i j) all 0:=by
        have:=(T.m_mono (c:=i) c' (by omega) (by omega)).1
        have h4':(S c').m+1≤countA (fun j=>!ordered b i j) all 0:=h4
        omega
       show _∈cond (Nat.blt (S i).m _) _ _
       rw[blt_dec,show decide ((S i).m<countA (fun j=>!ordered b i j) all 0)=true by simpa using hlt']
       exact List.mem_cons_self ..
      |aexit=>cases h3
      |_=>exact ih (by omega) (by omega) hd' h4
   exact hcl c (by omega) hc hcd hhi'
end
def Rn.nil(E:Rn):Rn:={a:=fun _ _=>none,f:=E.f}
theorem nil_wr{E h w} (W:WR E h w) (h':List Ob):WR E.nil h' w:=
 ⟨fun i g b n ha=>(by cases ha),W.frz,fun i b n _ ha=>(by cases ha),fun i b n _ ha=>(by cases ha),fun i j b n m _ _ ha=>(by cases ha),fun _ _ _ _=>rfl,fun _ _ _=>rfl,fun i g x _ hx=>(by cases hx)⟩
open Classical in
noncomputable def Rn.fill(E E':Rn) (z:Nat):Rn:={a:=fun i g=>if i=z then E'.a i g else E.a i g,f:=E'.f}
theorem fill_ok{E0 h0 w0 E h w hz ob w' E'} (A:Adv E0 h0 w0 E h w) (hidle:∀ g,E.a hz.length g=none) (hob:hget h hz.length=ob) (hlen:hz.length<h.length) (h0le:h0.length≤hz.length)
  (B:Adv E.nil hz w E' (hz++[ob]) w'):Adv E0 h0 w0 (E.fill E' hz.length) h w'∧E.le (E.fill E' hz.length)∧E'.le (E.fill E' hz.length)∧∀ i g,i ≠ hz.length→(E.fill E' hz.length).a i g=E.a i g:=by
 have W:=A.wr
 have W':=B.wr
 have hz_at:∀ g,(E.fill E' hz.length).a hz.length g=E'.a hz.length g:=fun g=>by simp [Rn.fill]
 have other:∀ i g,i ≠ hz.length→(E.fill E' hz.length).a i g=E.a i g:=fun i g hi=>by simp [Rn.fill,hi]
 have E'none:∀ i g,i ≠ hz.length→E'.a i g=none:=fun i g hi=>by
  by_cases h1:i<hz.length
  ·exact(B.idle i h1 fun _=>rfl).2 g
  ·exact W'.new i g (by simp;omega)
 have le1:E.le (E.fill E' hz.length):=by
  refine⟨fun i g x hx=>?_,fun b x hx=>B.le.f b x hx⟩
  rw[other i g (fun e=>by subst e;rw[hidle]at hx;cases hx)]
  exact hx
 have le2:E'.le (E.fill E' hz.length):=by
  refine⟨fun i g x hx=>?_,fun b x hx=>hx⟩
  by_cases e:i=hz.length
  ·subst e;rw[hz_at];exact hx
  ·rw[E'none i g e]at hx;cases hx
 have blk:∀ b,b<w.heap.size→w'.heap[b]?=w.heap[b]?:=fun b hb=>B.keep.block b hb fun i n _ _ ha=>by cases ha
 have fnew:∀ b vs,E'.f b=some vs→E.f b=none→b<w.heap.size→False:=fun b vs h1 h2 h3=>by
  obtain⟨j,m,_,_,ha⟩:=B.fgain b vs h1 h2 h3
  cases ha
 have fresh:∀ b n,ob.isDead=false→E'.a hz.length (obGen ob)=some (b,n)→w.heap.size≤b:=fun b n hd ha=>by
  by_cases hb:b<w.heap.size
  ·obtain⟨j,m,_,_,ha',_⟩:=B.gain hz.length b n (by simp) (by rw[hget_new];exact hd) (by rw[hget_new];exact ha) hb
   cases ha'
  ·omega
 have wr:WR (E.fill E' hz.length) h w':=by
  refine⟨?_,W'.frz,?_,?_,?_,?_,?_,?_⟩
  ·intro i g b n ha
   by_cases e:i=hz.length
   ·subst e;rw[hz_at]at ha;exact W'.bnd _ _ _ _ ha
   ·rw[other i g e]at ha;exact Nat.lt_of_lt_of_le (W.bnd _ _ _ _ ha) B.keep.size
  ·intro i b n hi ha
   by_cases e:i=hz.length
   ·subst e
    rw[hz_at,hob]at ha
    rw[hob]
    have:=W'.obj hz.length b n (by simp) (by rw[hget_new];exact ha)
    rw[hget_new]at this
    exact this.mono le2
   ·rw[other _ _ e]at ha
    rw[blk b (W.bnd _ _ _ _ ha)]
    exact(W.obj i b n hi ha).mono le1
  ·intro i b n hi ha hs
   by_cases e:i=hz.length
   ·subst e
    rw[hz_at,hob]at ha
    rw[hob]at hs
    exact W'.own hz.length b n (by simp) (by rw[hget_new];exact ha) (by rw[hget_new];exact hs)
   ·rw[other _ _ e]at ha
    show E'.f b=none
    cases hf:E'.f b with
    |none=>rfl
    |some vs=>exact(fnew b vs hf (W.own i b n hi ha hs) (W.bnd _ _ _ _ ha)).elim
  ·intro i j b n m hi hj ha hb hd1 hd2
   by_cases e1:i=hz.length<;>by_cases e2:j=hz.length
   ·omega
   ·rw[e1,hz_at,hob]at ha
    rw[other _ _ e2]at hb
    rw[e1,hob]at hd1
    have:=fresh b n hd1 ha
    have:=W.bnd _ _ _ _ hb
    omega
   ·rw[e2,hz_at,hob]at hb
    rw[other _ _ e1]at ha
    rw[e2,hob]at hd2
    have:=fresh b m hd2 hb
    have:=W.bnd _ _ _ _ ha
    omega
   ·rw[other _ _ e1]at ha
    rw[other _ _ e2]at hb
    exact W.inj i j b n m hi hj ha hb hd1 hd2
  ·intro i g hi hg
   by_cases e:i=hz.length
   ·subst e
    rw[hz_at]
    rw[hob]at hg
    exact W'.old hz.length g (by simp) (by rw[hget_new];exact hg)
   ·rw[other _ _ e];exact W.old i g hi hg
  ·intro i g hi
   rw[other _ _ (by omega)];exact W.new i g hi
  ·intro i g x hi hx
   by_cases e:i=hz.length
   ·subst e
    rw[hz_at]at hx ⊢
    rw[hob]
    have:=W'.cur hz.length g x (by simp) hx
    rwa[hget_new]at this
   ·rw[other _ _ e]at hx ⊢;exact W.cur i g x hi hx
 refine⟨⟨Rn.le_trans A.le le1,wr,⟨B.keep.os.trans A.keep.os,B.keep.tape.trans A.keep.tape,B.keep.output.trans A.keep.output,Nat.le_trans A.keep.size B.keep.size,?_⟩,?_,?_,A.len,?_⟩,le1,le2,other⟩
 ·intro b hb hno
  rw[blk b (Nat.lt_of_lt_of_le hb A.keep.size)]
  exact A.keep.block b hb hno
 ·intro i b n hi hd ha hb
  by_cases e:i=hz.length
  ·subst e
   rw[hz_at,hob]at ha
   rw[hob]at hd
   have:=fresh b n hd ha
   have:=A.keep.size
   omega
  ·rw[other _ _ e]at ha
   exact A.gain i b n hi hd ha hb
 ·intro b vs h1 h2 hb
  cases hf:E.f b with
  |some us=>exact A.fgain b us hf h2 hb
  |none=>exact(fnew b vs h1 hf (Nat.lt_of_lt_of_le hb A.keep.size)).elim
 ·intro i hi hn
  obtain⟨k1,k2⟩:=A.idle i hi hn
  exact⟨k1,fun g=>by rw[other _ _ (by omega)];exact k2 g⟩
theorem isZ_indep{o:Op} (hz:isZ o=true) (c:Ctx) (t t':Tm) (h:List Ob):opD o c t h=opD o c t' h:=by
 cases o with
 |alloc el=>rfl
 |buildSlice ty n parts=>
  simp only[isZ,Bool.and_eq_true,Nat.beq_eq,List.isEmpty_iff,Array.toList_eq_nil_iff]at hz
  obtain⟨rfl,rfl⟩:=hz
  rfl
 |makeMap ty r=>
  cases r with
  |none=>rfl
  |some r=>simp [isZ]at hz
 |_=>simp [isZ]at hz
theorem all_un(n:Nat):∃ t:Tm,∀ i,t.get i=if i<n then .un else undefA:=by
 induction n with
 |zero=>exact⟨.lf,fun i=>by simp [Tm.get_lf]⟩
 |succ n ih=>
  obtain⟨t,ht⟩:=ih
  refine⟨t.set n .un,fun i=>?_⟩
  rw[Tm.get_set,ht]
  by_cases e:i=n
  ·simp [e]
  ·by_cases e2:i<n
   ·rw[if_neg e,if_pos e2,if_pos (by omega)]
   ·rw[if_neg e,if_neg e2,if_neg (by omega)]
theorem TR.un{E:Rn} {t:Tm} {vs:Array Value} (h:∀ i,t.get i=if i<vs.size then .un else undefA):TR E t vs:=by
 intro i
 rw[h]
 split
 ·exact .un _
 ·rename_i hi
  have:vs.getD i undef=undef:=by rw[Array.getD_eq_getD_getElem?,Array.getElem?_eq_none (Nat.le_of_not_lt hi)];rfl
  exact VR.undef E
theorem max_below(p:Nat→Prop):∀ i,(∃ j,j<i∧p j)→∃ j,j<i∧p j∧∀ j',j<j'→j'<i→¬p j':=by
 intro i
 induction i with
 |zero=>rintro⟨j,hj,_⟩;omega
 |succ i ih=>
  rintro⟨j,hj,hp⟩
  by_cases hi:p i
  ·exact⟨i,by omega,hi,fun j' h1 h2=>by omega⟩
  ·have:j<i:=by
    by_cases e:j=i
    ·subst e;exact absurd hp hi
    ·omega
   obtain⟨j,h1,h2,h3⟩:=ih ⟨j,this,hp⟩
   refine⟨j,by omega,h2,fun j' k1 k2=>?_⟩
   by_cases e:j'=i
   ·subst e;exact hi
   ·exact h3 j' k1 (by omega)
theorem put_getD_ne{a:Act} {dst:Option Tmp} {x:Value} {s:Tmp} (h:dst ≠ some s):(a.put dst x).tmps.getD s undef=a.tmps.getD s undef:=by
 cases dst with
 |none=>rfl
 |some d=>
  have hne:d ≠ s:=fun e=>h (by rw[e])
  simp [Act.put,Array.getD_eq_getD_getElem?,Array.getElem?_setIfInBounds_ne hne]
theorem put_getD_self{a:Act} {x:Value} {s:Tmp} (h:s<a.tmps.size):(a.put (some s) x).tmps.getD s undef=x:=by
 simp [Act.put,Array.getD_eq_getD_getElem?,h]
theorem putK_ret{n dst v t h d r out} (ho:putK n dst v t (fun t=>some (.mk .n t h d r))=some out):∃ t',out=.mk .n t' h d r∧Put n dst v t t':=by
 obtain⟨t',hp,hk⟩:=putK_put ho
 cases hk
 exact⟨t',rfl,hp⟩
theorem look_step{E:Env} {all:List Oper} {o:Oper} {t h v} (hv:lookV E.c all o t h=some v) (K:K) (d:List AD) (r:Option RM) :
  opStep E all o K t h d r=putK E.n o.dst v t fun t=>K t h d r:=by
 unfold lookV at hv
 unfold opStep
 cases hw:wanted? all t o.guard with
 |none=>rw[hw]at hv;cases hv
 |some z=>
  rw[hw]at hv
  cases z with
  |false=>cases hv;rfl
  |true=>
   simp only at hv ⊢
   cases hop:opD o.op E.c t h with
   |w u=>rw[hop]at hv;cases hv;rfl
   |_=>rw[hop]at hv;cases hv
structure Inv (c:Ctx) (all:List Oper) (b:List Nat) (S:Nat→DS) (E0:Rn) (h0:List Ob) (w0:World) (n:Nat) (rs:Bool) (L:Nat→Prop) (cu:Nat) (E:Rn) (a:Act) (u:FrameMode) (w:World):Prop where
 closed:∀ i j,L j→ordered b i j=true→L i
 lt:∀ i,L i→i<all.length
 hcu:cu≤all.length∧(S cu).dd=none
 acts:∀ (i:Nat) (o:Oper),all[i]?=some o→isA o.op=true→(L i↔i<cu)
 adv:Adv E0 h0 w0 E (S cu).h w
 hg:GR c E
 hn:a.tmps.size=n
 hd:DR E (S cu).d a.defers
 hr:RR E (S cu).r u
 hrs:(S cu).r.isSome=rs
 hlen:(S 0).h.length≤(S cu).h.length
 s1:∀ s,(∀ (j:Nat) (o:Oper),L j→all[j]?=some o→o.dst ≠ some s)→VR E ((S 0).t.get s) (a.tmps.getD s undef)
 s2:∀ s (j:Nat) (o:Oper),L j→all[j]?=some o→o.dst=some s→(∀ (j':Nat) (o':Oper),L j'→j<j'→all[j']?=some o'→o'.dst ≠ some s) →
  VR E ((S (j+1)).t.get s) (a.tmps.getD s undef)
 idle:∀ (i:Nat) (o:Oper),all[i]?=some o→isZ o.op=true→¬L i →
  (∀ g,E.a (Hp c all h0 i).length g=none)∧hget (S cu).h (Hp c all h0 i).length=hget (S 0).h (Hp c all h0 i).length
section
variable {Ev:Env} {all:List Oper} {b:List Nat} {S:Nat→DS} {E0:Rn} {h0:List Ob} {w0:World} {n:Nat} {rs:Bool} {L:Nat→Prop} {cu:Nat} {E:Rn} {a:Act} {u:FrameMode} {w:World}
theorem Inv.slot(T:Trace Ev all b h0 S) (I:Inv Ev.c all b S E0 h0 w0 n rs L cu E a u w) {i:Nat} (hi:i≤all.length) {s:Tmp}
  (hw1:∀ (j:Nat) (o:Oper),L j→all[j]?=some o→o.dst=some s→j<i) (hw2:∀ (j:Nat) (o:Oper),j<i→all[j]?=some o→o.dst=some s→L j) :
  VR E ((S i).t.get s) (a.tmps.getD s undef):=by
 by_cases hex:∃ j,j<i∧∃ o:Oper,all[j]?=some o∧o.dst=some s
 ·obtain⟨j,h1,⟨o,h2,h3⟩,h4⟩:=max_below (fun j=>∃ o:Oper,all[j]?=some o∧o.dst=some s) i hex
  rw[T.t_between i (j+1) (by omega) hi fun k o' k1 k2 k3 k4=>h4 k (by omega) k2 ⟨o',k3,k4⟩]
  refine I.s2 s j o (hw2 j o h1 h2 h3) h2 h3 fun j' o' k1 k2 k3 k4=>?_
  exact h4 j' k2 (hw1 j' o' k1 k3 k4) ⟨o',k3,k4⟩
 ·rw[T.t_between i 0 (by omega) hi fun k o' k1 k2 k3 k4=>hex ⟨k,k2,o',k3,k4⟩]
  refine I.s1 s fun j o k1 k2 k3=>?_
  exact hex ⟨j,hw1 j o k1 k2 k3,o,k2,k3⟩
theorem Inv.tr(T:Trace Ev all b h0 S) (I:Inv Ev.c all b S E0 h0 w0 n rs L cu E a u w) {i:Nat} (hi:i<all.length) (hni:¬L i) (hbef:∀ j,ordered b j i=true→L j) :
  TR E (blurAll (S i).t (blankOf all b i)) a.tmps:=by
 intro s
 rw[blurAll_get]
 split
 ·exact .un _
 ·rename_i hs
  have hcase:∀ (j:Nat) (o:Oper),all[j]?=some o→o.dst=some s→ordered b j i=true∨ordered b i j=true∨j=i:=by
   intro j o hj ho
   by_cases h1:ordered b j i=true
   ·exact .inl h1
   ·by_cases h2:ordered b i j=true
    ·exact .inr (.inl h2)
    ·by_cases h3:j=i
     ·exact .inr (.inr h3)
     ·refine absurd (dstsOf_mem.2 ⟨j,o,hj,?_,ho⟩) hs
      rw[Nat.zero_add]
      have h3':Nat.beq j i=false:=by
       cases hb:Nat.beq j i with
       |false=>rfl
       |true=>exact absurd (Nat.eq_of_beq_eq_true hb) h3
      simp [h1,h2,h3']
  refine I.slot T (by omega) ?_ ?_
  ·intro j o hj ho hd
   rcases hcase j o ho hd with h1|h1|h1
   ·exact T.ord.below i hi j h1
   ·exact absurd (I.closed i j hj h1) hni
   ·subst h1;exact absurd hj hni
  ·intro j o hj ho hd
   rcases hcase j o ho hd with h1|h1|h1
   ·exact hbef j h1
   ·have:=T.ord.below j (by omega) i h1
    omega
   ·omega
theorem Inv.next(T:Trace Ev all b h0 S) (I:Inv Ev.c all b S E0 h0 w0 n rs L cu E a u w) {i:Nat} {o:Oper} (hi:all[i]?=some o) (hni:¬L i) (hbef:∀ j,ordered b j i=true→L j)
  {cu':Nat} {E':Rn} {x:Value} {u':FrameMode} {w':World} {df:List Deferred} (hcu:(isA o.op=true∧cu'=i+1)∨(isA o.op=false∧cu'=cu)) (hcu':cu'≤all.length∧(S cu').dd=none)
  (A:Adv E0 h0 w0 E' (S cu').h w') (hle:E.le E') (hd:DR E' (S cu').d df) (hr:RR E' (S cu').r u') (hrs:(S cu').r.isSome=rs) (hlen:(S 0).h.length≤(S cu').h.length)
  (hv:∀ s,o.dst=some s→s<n∧VR E' ((S (i+1)).t.get s) x)
  (hidle:∀ (j:Nat) (o':Oper),all[j]?=some o'→isZ o'.op=true→¬L j→j ≠ i→(∀ g,E'.a (Hp Ev.c all h0 j).length g=none)∧hget (S cu').h (Hp Ev.c all h0 j).length=hget (S 0).h (Hp Ev.c all h0 j).length) :
  Inv Ev.c all b S E0 h0 w0 n rs (fun j=>L j∨j=i) cu' E' (({a with defers:=df}:Act).put o.dst x) u' w':=by
 have hlt:i<all.length:=(List.getElem?_eq_some_iff.1 hi).1
 refine⟨?_,?_,hcu',?_,A,I.hg.mono hle,by rw[Act.put_size];exact I.hn,by rw[Act.put_defs];exact hd,hr,hrs,hlen,?_,?_,?_⟩
 ·rintro j k (hk|rfl) ho
  ·exact .inl (I.closed j k hk ho)
  ·exact .inl (hbef j ho)
 ·rintro j (hj|rfl)
  ·exact I.lt j hj
  ·exact hlt
 ·intro j o' hj ha
  have hold:=I.acts j o' hj ha
  rcases hcu with⟨h1,rfl⟩|⟨h1,rfl⟩
  ·constructor
   ·rintro(h2|rfl)
    ·by_cases h3:j<i+1
     ·exact h3
     ·have:=T.ord.acts i j o o' (by omega) hi hj h1 ha
      exact absurd (I.closed i j h2 this) hni
    ·omega
   ·intro h2
    by_cases e:j=i
    ·exact .inr e
    ·exact .inl (hbef j (T.ord.acts j i o' o (by omega) hj hi ha h1))
  ·constructor
   ·rintro(h2|rfl)
    ·exact hold.1 h2
    ·rw[hi]at hj;cases hj;rw[ha]at h1;cases h1
   ·intro h2;exact .inl (hold.2 h2)
 ·intro s hs
  rw[put_getD_ne (hs i o (.inr rfl) hi)]
  exact(I.s1 s fun j o' hj=>hs j o' (.inl hj)).mono hle
 ·intro s j o' hj hjo hd' hlast
  by_cases e:j=i
  ·subst e
   rw[hi]at hjo;cases hjo
   obtain⟨k1,k2⟩:=hv s hd'
   rw[hd',put_getD_self (by show s<a.tmps.size;rw[I.hn];exact k1)]
   exact k2
  ·have hj':L j:=hj.resolve_right e
   have hne:o.dst ≠ some s:=by
    intro ho
    by_cases h1:j<i
    ·exact hlast i o (.inr rfl) h1 hi ho
    ·have:ordered b i j=true:=T.ord.same i j o o' (by omega) hi hjo (by unfold sameDst;rw[ho,hd'];simp)
     exact hni (I.closed i j hj' this)
   rw[put_getD_ne hne]
   exact(I.s2 s j o' hj' hjo hd' fun j' o'' k1=>hlast j' o'' (.inl k1)).mono hle
 ·intro j o' hj hz hn
  simp only[not_or]at hn
  exact hidle j o' hj hz hn.1 hn.2
end
theorem Trace.dd_stay{E:Env} {all:List Oper} {b:List Nat} {h0:List Ob} {S:Nat→DS} (T:Trace E all b h0 S) {x}:∀ j i,i≤j→j≤all.length→(S i).dd=some x→(S j).dd=some x:=by
 intro j
 induction j with
 |zero=>intro i hi _ h;rw[show i=0 by omega]at h;exact h
 |succ j ih=>
  intro i hi hj h
  by_cases e:i=j+1
  ·subst e;exact h
  ·have ih:=ih i (by omega) (by omega) h
   have st:=T.step j _ (List.getElem?_eq_getElem (by omega))
   generalize S (j+1)=s' at st
   generalize kindOf' all b all[j] j=κ at st
   cases st with
   |a hd=>rw[hd]at ih;cases ih
   |aexit hd=>rw[hd]at ih;cases ih
   |_=>exact ih
theorem Trace.dd_src{E:Env} {all:List Oper} {b:List Nat} {h0:List Ob} {S:Nat→DS} (T:Trace E all b h0 S) {q:Nat} {out:Out}:∀ i,i≤all.length→(S i).dd=some (q,out) →
  q<i∧(∃ oq,all[q]?=some oq∧isA oq.op=true)∧(S (q+1)).dd=some (q,out):=by
 intro i
 induction i with
 |zero=>intro _ h;rw[T.dd0]at h;cases h
 |succ i ih=>
  intro hi h
  have hio:all[i]?=some all[i]:=List.getElem?_eq_getElem (by omega)
  have st:=T.step i _ hio
  have hA:∀ x y,kindOf' all b all[i] i=.A x y→isA all[i].op=true:=by
   intro x y hxy
   unfold kindOf' at hxy
   unfold isA
   cases hz:isZ all[i].op<;>cases hl:isL all[i].op<;>simp_all
  generalize hs':S (i+1)=s' at st h
  generalize hκ:kindOf' all b all[i] i=κ at st hA
  cases st with
  |aexit hd he hx=>
   cases h
   exact⟨by omega,⟨_,hio,hA _ _ rfl⟩,by rw[hs']⟩
  |a hd=>rw[hd]at h;cases h
  |_=>obtain⟨k1,k2,k3⟩:=ih (by omega) h;exact⟨by omega,k2,k3⟩
theorem Trace.not_dead{E:Env} {all:List Oper} {b:List Nat} {h0:List Ob} {S:Nat→DS} (T:Trace E all b h0 S) {L:Nat→Prop} {cu i:Nat} (hi:i≤all.length) (hbef:∀ j,ordered b j i=true→L j)
  (hcu:cu≤all.length∧(S cu).dd=none) (hacts:∀ (i:Nat) (o:Oper),all[i]?=some o→isA o.op=true→(L i↔i<cu)) :
  deadBefore b (S i).dd i=false:=by
 unfold deadBefore
 cases hd:(S i).dd with
 |none=>rfl
 |some x=>
  obtain⟨q,out⟩:=x
  simp only
  cases ho:ordered b q i with
  |false=>rfl
  |true=>
   obtain⟨h1,⟨oq,h2,h3⟩,h4⟩:=T.dd_src i hi hd
   have:=(hacts q oq h2 h3).1 (hbef q ho)
   rw[T.dd_mono cu (q+1) (by omega) hcu.1 hcu.2]at h4
   cases h4
theorem filter_lt{p q:Nat→Bool} {i:Nat}:∀ (l:List Nat),(∀ x,q x=true→p x=true)→i∈l→p i=true→q i=false→(l.filter q).length<(l.filter p).length:=by
 intro l
 induction l with
 |nil=>intro _ h;simp at h
 |cons x l ih=>
  intro hpq hi hp hq
  have hle:(l.filter q).length≤(l.filter p).length:=by
   clear ih hi
   induction l with
   |nil=>simp
   |cons y l ih2=>
    simp only[List.filter_cons]
    cases hqy:q y with
    |true=>rw[hpq y hqy];simpa using ih2
    |false=>cases p y<;>simp<;>omega
  rcases List.mem_cons.1 hi with rfl|hi
  ·simp only[List.filter_cons,hp,hq]
   simp;omega
  ·have:=ih hpq hi hp hq
   simp only[List.filter_cons]
   cases hqx:q x with
   |true=>rw[hpq x hqx];simpa using this
   |false=>cases p x<;>simp<;>omega
section
variable {c:Ctx} {P:Program} {call:CallF} {X:Fx} {fn:FuncId} {rd:Option Nat} {n:Nat} {k:List Item} {ops:Array Oper}
 {b:List Nat} {S:Nat→DS} {E0:Rn} {h0:List Ob} {w0:World} {r0:Option RM}
theorem ready_spec{listed:Array Bool} {i:Nat} (h:i∈Region.ready .any ops listed) (hs:listed.size=ops.size) :
  ¬(listed.getD i false=true)∧∃ o,ops[i]?=some o∧∀ e∈o.after.toList,Region.binds .any e=true→listed.getD e.on false=true:=by
 obtain⟨h1,o,h2,h3⟩:=mem_ready.1 h
 have hlt:i<ops.size:=(Array.getElem?_eq_some_iff.1 h2).1
 refine⟨?_,o,h2,fun e he=>h3 e (by simpa using he)⟩
 rw[Array.getD_eq_getD_getElem?]at h1 ⊢
 rw[Array.getElem?_eq_getElem (by omega)]at h1 ⊢
 simpa using h1
theorem ready_bef{listed:Array Bool} {i:Nat} (O:Ordd ops.toList b) (h:i∈Region.ready .any ops listed) (hs:listed.size=ops.size)
  (hclosed:∀ i j,listed.getD j false=true→ordered b i j=true→listed.getD i false=true):∀ j,ordered b j i=true→listed.getD j false=true:=by
 obtain⟨_,o,h2,h3⟩:=ready_spec h hs
 intro j hj
 obtain⟨e,he,hb,hh⟩:=O.edge i o j (by simpa using h2) hj
 have:=h3 e he hb
 rcases hh with rfl|hh
 ·exact this
 ·exact hclosed j e.on this hh
theorem ready_all{listed:Array Bool} (O:Ordd ops.toList b) (h:Region.ready .any ops listed=[]) (hs:listed.size=ops.size):∀ i,i<ops.size→listed.getD i false=true:=by
 intro i
 induction i using Nat.strongRecOn with
 |_ i ih=>
  intro hi
  by_cases hl:listed.getD i false=true
  ·exact hl
  ·exfalso
   have:i∈Region.ready .any ops listed:=by
    refine mem_ready.2 ⟨?_,ops[i],by simp [hi],?_⟩
    ·rw[Array.getD_eq_getD_getElem?,Array.getElem?_eq_getElem (by omega)]at hl ⊢
     simpa using hl
    ·intro e he hb
     have hlt:=O.lt i ops[i] (by simp [hi]) e (by simpa using he) hb
     exact ih e.on hlt (by omega)
   rw[h]at this
   cases this
theorem sim_ok(C:CtxOk c P) (hcall:CallOk c P call) (T:Trace ⟨c,call,fn,n,rd⟩ ops.toList b h0 S) (W0:WR E0 h0 w0) (F0:FxOk E0 X fn rd r0.isSome) {m0:Machine} :
  ∀ (fuel tn:Nat) (listed:Array Bool) (cu:Nat) (E:Rn) (a:Act) (u:FrameMode) (w:World),listed.size=ops.size →
   ((List.range ops.size).filter (fun j=>!listed.getD j false)).length≤fuel →
   Inv c ops.toList b S E0 h0 w0 n r0.isSome (fun j=>listed.getD j false=true) cu E a u w →
   Steps P m0 (St X a (.inRegion ops (Region.linearise.go .any ops fuel tn listed [])::k) u w) →
   Good c P X m0 k E0 h0 w0 n r0 (S ops.toList.length).fin:=by
 have O:=T.ord
 have hN:ops.toList.length=ops.size:=by simp
 -- the end
 have final:∀ (listed:Array Bool) (cu:Nat) (E:Rn) (a:Act) (u:FrameMode) (w:World),listed.size=ops.size→Region.ready .any ops listed=[] →
   Inv c ops.toList b S E0 h0 w0 n r0.isSome (fun j=>listed.getD j false=true) cu E a u w→Steps P m0 (St X a (.inRegion ops []::k) u w)→Good c P X m0 k E0 h0 w0 n r0 (S ops.toList.length).fin:=by
  intro listed cu E a u w hs hr I st
  have hall:=ready_all O hr hs
  obtain⟨k1,k2,k3,k4⟩:=T.h_keep (c:=cu) ops.toList.length I.hcu.1 (Nat.le_refl _) fun j o h1 h2 hj=>by
   cases ha:isA o.op with
   |false=>rfl
   |true=>have:=(I.acts j o hj ha).1 (hall j (by omega));omega
  have hdd:=k4 I.hcu.2
  unfold DS.fin
  rw[hdd]
  refine⟨E,a,u,w,by rw[k1];exact I.adv,⟨I.hg,?_,I.hn,by rw[k1];exact I.adv.wr,by rw[k2];exact I.hd,by rw[k3];exact I.hr⟩,by rw[k3];exact I.hrs,st.trans (.one fstep_region_end)⟩
  intro s
  refine I.slot T (Nat.le_refl _) (fun j o hj ho _=>(List.getElem?_eq_some_iff.1 ho).1) fun j o hj ho _=>hall j (by omega)
 intro fuel
 induction fuel with
 |zero=>
  intro tn listed cu E a u w hs hf I st
  refine final listed cu E a u w hs ?_ I st
  have hnil:(List.range ops.size).filter (fun j=>!listed.getD j false)=[]:=List.eq_nil_of_length_eq_zero (Nat.le_zero.1 hf)
  cases hr:Region.ready .any ops listed with
  |nil=>rfl
  |cons i l=>
   exfalso
   have hi:i∈Region.ready .any ops listed:=by rw[hr];exact List.mem_cons_self ..
   obtain⟨h1,o,h2,_⟩:=ready_spec hi hs
   have hlt:i<ops.size:=(Array.getElem?_eq_some_iff.1 h2).1
   have:i∈(List.range ops.size).filter (fun j=>!listed.getD j false):=List.mem_filter.2 ⟨List.mem_range.2 hlt,by simpa using h1⟩
   rw[hnil]at this
   cases this
 |succ fuel ih=>
  intro tn listed cu E a u w hs hf I st
  simp only[Region.linearise.go]at st
  change Steps P m0 (St X a (.inRegion ops (match(Region.ready .any ops listed)[tn % (Region.ready .any ops listed).length]? with
   |some i=>Region.linearise.go .any ops fuel (tn / (Region.ready .any ops listed).length) (listed.setIfInBounds i true) [i]
   |none=>[].reverse)::k) u w)at st
  cases hi:(Region.ready .any ops listed)[tn % (Region.ready .any ops listed).length]? with
  |none=>
   rw[hi]at st
   refine final listed cu E a u w hs ?_ I st
   cases hr:Region.ready .any ops listed with
   |nil=>rfl
   |cons x xs=>
    rw[hr]at hi
    have hlt:tn % (x::xs).length<(x::xs).length:=Nat.mod_lt _ (by simp)
    simp at hi
    simp at hlt
    omega
  |some i=>
   rw[hi]at st
   simp only at st
   rw[linearise_go_acc,List.reverse_singleton,List.singleton_append]at st
   generalize tn / (Region.ready .any ops listed).length=tn' at st
   have hmem:i∈Region.ready .any ops listed:=List.mem_of_getElem? hi
   obtain⟨hni,o,ho,hafter⟩:=ready_spec hmem hs
   have hbef:=ready_bef O hmem hs I.closed
   have hlt:i<ops.size:=(Array.getElem?_eq_some_iff.1 ho).1
   have ho':ops.toList[i]?=some o:=by simpa using ho
   have htr:=I.tr T (by omega) hni hbef
   -- what comes next
   have hs':(listed.setIfInBounds i true).size=ops.size:=by simpa using hs
   have hLL:(fun j=>(listed.setIfInBounds i true).getD j false=true)=(fun j=>listed.getD j false=true∨j=i):=by
    funext j
    by_cases e:i=j
    ·subst e
     simp [Array.getD_eq_getD_getElem?,show i<listed.size by omega]
    ·rw[getD_set_ne false e]
     simp [Ne.symm e]
   have hf':((List.range ops.size).filter (fun j=>!(listed.setIfInBounds i true).getD j false)).length≤fuel:=by
    have:=filter_lt (p:=fun j=>!listed.getD j false) (q:=fun j=>!(listed.setIfInBounds i true).getD j false) (i:=i) (List.range ops.size) (by
     intro x hx
     by_cases e:i=x
     ·subst e;simpa using hni
     ·simp only[getD_set_ne false e]at hx;exact hx) (List.mem_range.2 hlt) (by simpa using hni) (by simp [Array.getD_eq_getD_getElem?,show i<listed.size by omega])
    omega
   have F1:FxOk E X fn rd (S cu).r.isSome:=by rw[I.hrs];exact F0.mono I.adv.le
   have go:∀ {cu':Nat} {E':Rn} {x:Value} {u':FrameMode} {w':World} {df:List Deferred},((isA o.op=true∧cu'=i+1)∨(isA o.op=false∧cu'=cu))→(cu'≤ops.toList.length∧(S cu').dd=none) →
     Adv E0 h0 w0 E' (S cu').h w'→E.le E'→DR E' (S cu').d df→RR E' (S cu').r u'→(S cu').r.isSome=r0.isSome→(S 0).h.length≤(S cu').h.length →
     (∀ s,o.dst=some s→s<n∧VR E' ((S (i+1)).t.get s) x) →
     (∀ (j:Nat) (o':Oper),ops.toList[j]?=some o'→isZ o'.op=true→¬(listed.getD j false=true)→j ≠ i→(∀ g,E'.a (Hp c ops.toList h0 j).length g=none)∧hget (S cu').h (Hp c ops.toList h0 j).length=hget (S 0).h (Hp c ops.toList h0 j).length) →
     Steps P (St X a (.inRegion ops (i::Region.linearise.go .any ops fuel tn' (listed.setIfInBounds i true) [])::k) u w) (St X (({a with defers:=df}:Act).put o.dst x) (.inRegion ops (Region.linearise.go .any ops fuel tn' (listed.setIfInBounds i true) [])::k) u' w') →
     Good c P X m0 k E0 h0 w0 n r0 (S ops.toList.length).fin:=by
    intro cu' E' x u' w' df h1 h2 h3 h4 h5 h6 h7 h8 h9 h10 h11
    have I':=I.next T ho' hni hbef h1 h2 h3 h4 h5 h6 h7 h8 h9 h10
    rw[← hLL]at I'
    exact ih tn' _ cu' E' _ u' w' hs' hf' I' (st.trans h11)
   -- the places of the variables
   have hzpos:∀ (j:Nat) (o':Oper),ops.toList[j]?=some o'→isZ o'.op=true→(Hp c ops.toList h0 j).length<(S 0).h.length∧h0.length≤(Hp c ops.toList h0 j).length:=by
    intro j o' hj hz
    obtain⟨v,ob,_,_,h3⟩:=T.hoisted.vars j o' hj hz
    have hjl:j<ops.toList.length:=(List.getElem?_eq_some_iff.1 hj).1
    obtain⟨r1,hr1⟩:=Hp_pre c ops.toList h0 ops.toList.length (j+1) (by omega)
    obtain⟨r2,hr2⟩:=Hp_pre c ops.toList h0 j 0 (by omega)
    have hfin:(S 0).h=Hp c ops.toList h0 ops.toList.length:=T.hoisted.fin
    refine⟨?_,?_⟩
    ·have h3':Hp c ops.toList h0 (j+1)=Hp c ops.toList h0 j++[ob]:=h3
     rw[hfin,hr1,h3'];simp
    ·rw[hr2];show h0.length≤(h0++r2).length;simp
   have hidle':∀ {E':Rn} {h':List Ob} {w':World},Adv E (S cu).h w E' h' w'→∀ (j:Nat) (o':Oper),ops.toList[j]?=some o'→isZ o'.op=true→¬(listed.getD j false=true)→j ≠ i →
     (∀ g,E'.a (Hp c ops.toList h0 j).length g=none)∧hget h' (Hp c ops.toList h0 j).length=hget (S 0).h (Hp c ops.toList h0 j).length:=by
    intro E' h' w' A j o' hj hz hn _
    obtain⟨k1,k2⟩:=I.idle j o' hj hz hn
    obtain⟨k3,k4⟩:=A.idle _ (by have:=(hzpos j o' hj hz).1;have:=I.hlen;omega) k1
    exact⟨k4,k3.trans k2⟩
   have step:=T.step i o ho'
   have hndead:=T.not_dead (L:=fun j=>listed.getD j false=true) (by omega) hbef I.hcu I.acts
   cases hz:isZ o.op with
   |true=>
    -- a variable is made
    have hna := isA_false_of_Z hz
    obtain⟨v,ob,h1,h2,h3⟩:=T.hoisted.vars i o ho' hz
    obtain⟨q1,q2⟩:=hzpos i o ho' hz
    obtain⟨id1,id2⟩:=I.idle i o ho' hz hni
    have hob:hget (S cu).h (Hp c ops.toList h0 i).length=ob:=by
     rw[id2]
     obtain⟨r1,hr1⟩:=Hp_pre c ops.toList h0 ops.toList.length (i+1) (by omega)
     have hfin:(S 0).h=Hp c ops.toList h0 ops.toList.length:=T.hoisted.fin
     have h3':Hp c ops.toList h0 (i+1)=Hp c ops.toList h0 i++[ob]:=h3
     rw[hfin,hr1,h3',hget_eq]
     simp
    obtain⟨tu,htu⟩:=all_un a.tmps.size
    have sem:=opD_ok (E:=E.nil) (h:=Hp c ops.toList h0 i) C (nil_wr I.adv.wr _) (I.hg.of_f rfl) (TR.un htu) o
    rw[isZ_indep hz c tu .lf,show opD o.op c .lf (Hp c ops.toList h0 i)=.wn v ob from h1]at sem
    obtain⟨nx,w',hr,hh⟩:=sem rfl
    have hw:Region.wanted o (yielded ops a.tmps)=true:=by
     unfold Region.wanted;rw[O.z i o ho' hz]
    have hd:∀ cl,o.op ≠ .defer cl:=fun cl hh=>by rw[hh]at hz;cases hz
    have hput:∀ s,o.dst=some s→s<n∧(S (i+1)).t.get s=v:=by
     intro s hs
     have hk:kindOf' ops.toList b o i=.Z:=by unfold kindOf';rw[hz];rfl
     rw[hk]at step
     generalize S (i+1)=s' at step
     cases step with
     | @z _ v' zs' t' hz' hd' hp=>
      have h2':(S i).zs.head?=some v:=h2
      rw[hz']at h2'
      cases h2'
      refine⟨hp.2 s hs,?_⟩
      show t'.get s=v
      rw[hp.1 s,if_pos hs]
     |zskip hz' hd'=>rw[hndead]at hd';cases hd'
    have fin:∀ {E'':Rn} {x:Value},Adv E.nil (Hp c ops.toList h0 i) w E'' (Hp c ops.toList h0 i++[ob]) w'→VR E'' v x →
      Steps P (St X a (.inRegion ops (i::Region.linearise.go .any ops fuel tn' (listed.setIfInBounds i true) [])::k) u w) (St X (a.put o.dst x) (.inRegion ops (Region.linearise.go .any ops fuel tn' (listed.setIfInBounds i true) [])::k) u w') →
      Good c P X m0 k E0 h0 w0 n r0 (S ops.toList.length).fin:=by
     intro E'' x B hv hst
     obtain⟨A',le1,le2,hoth⟩:=fill_ok I.adv id1 hob (by have:=I.hlen;omega) q2 B
     refine go (.inr ⟨hna,rfl⟩) I.hcu A' le1 (I.hd.mono le1) (I.hr.mono le1) I.hrs I.hlen ?_ ?_ hst
     ·intro s hs
      obtain⟨k1,k2⟩:=hput s hs
      exact⟨k1,by rw[k2];exact hv.mono le2⟩
     ·intro j o' hj hzj hn hji
      obtain⟨k1,k2⟩:=I.idle j o' hj hzj hn
      refine⟨fun g=>?_,k2⟩
      rw[hoth _ g ?_]
      ·exact k1 g
      ·-- two variables, two places
       obtain ⟨_, obj, _, _, hj3⟩ := T.hoisted.vars j o' hj hzj
       have hj3':Hp c ops.toList h0 (j+1)=Hp c ops.toList h0 j++[obj]:=hj3
       have h3':Hp c ops.toList h0 (i+1)=Hp c ops.toList h0 i++[ob]:=h3
       rcases Nat.lt_or_gt_of_ne hji with hlt'|hlt'
       ·obtain⟨r1,hr1⟩:=Hp_pre c ops.toList h0 i (j+1) (by omega)
        rw[hr1,hj3'];simp
       ·obtain⟨r1,hr1⟩:=Hp_pre c ops.toList h0 j (i+1) (by omega)
        rw[hr1,h3'];simp
    rcases hh with⟨x,rfl,E'',B,hv⟩|⟨rfl,E'',B,hv⟩
    ·exact fin B hv (op_value ho hw (.inr hd) hr)
    ·exact fin B hv (op_skip ho hw (.inr hd) hr)
   |false=>
    cases hl:isL o.op with
    |true=>
     have hna:=isA_false_of_L hl
     obtain⟨v,h1,h2,h3⟩:=T.look ho' hl hz hndead I.hcu.1 I.hcu.2 (fun j x hj hx hord=>(I.acts j x hj hx).1 (hbef j hord)) (fun j x hj hx hord=>by
      cases hh:ordered b i j with
      |false=>rfl
      |true=>exact absurd (I.closed i j ((I.acts j x hj hx).2 hord) hh) hni)
     have hstep:=look_step (E:=⟨c,call,fn,n,rd⟩) h1 (fun t h d r=>some (.mk .n t h d r)) (S cu).d (S cu).r
     obtain⟨t'',hp1,hp2⟩:=put_putK (show Put n o.dst v (blurAll (S i).t (blankOf ops.toList b i)) ((blurAll (S i).t (blankOf ops.toList b i)).set (o.dst.getD 0) (if o.dst.isSome then v else(blurAll (S i).t (blankOf ops.toList b i)).get 0))from by
      refine⟨fun s=>?_,h2.2⟩
      rw[Tm.get_set]
      cases hd:o.dst with
      |none=>simp;intro hh;rw[hh]
      |some e=>simp [eq_comm]) (fun t=>some (.mk .n t (S cu).h (S cu).d (S cu).r))
     have hout:opStep ⟨c,call,fn,n,rd⟩ ops.toList o (fun t h d r=>some (.mk .n t h d r)) (blurAll (S i).t (blankOf ops.toList b i)) (S cu).h (S cu).d (S cu).r=some (.mk .n t'' (S cu).h (S cu).d (S cu).r):=by
      rw[hstep];exact hp1
     have SS:SR c E n (blurAll (S i).t (blankOf ops.toList b i)) (S cu).h (S cu).d (S cu).r a u w:=⟨I.hg,htr,I.hn,I.adv.wr,I.hd,I.hr⟩
     have H:=opStep_end (k:=k) (rest:=Region.linearise.go .any ops fuel tn' (listed.setIfInBounds i true) []) C hcall ho SS F1 hout
     cases H with
     |pan A hv st' hh=>cases hh
     | @val v' x E' h' d' r' u' w' df A hv hd hr hrs st' hh=>
      obtain⟨t3,e1,hp3⟩:=putK_ret hh
      cases e1
      refine go (.inr ⟨hna,rfl⟩) I.hcu (I.adv.trans A) A.le hd hr (hrs.trans I.hrs) I.hlen ?_ (hidle' A) st'
      intro s hs
      refine⟨h2.2 s hs,?_⟩
      have e1:=hp2.1 s
      have e2:=hp3.1 s
      rw[if_pos hs]at e1 e2
      rw[h2.1 s,if_pos hs,← e1,e2]
      exact hv
    |false=>
     have hact:isA o.op=true:=by unfold isA;rw[hz,hl];rfl
     have hk:kindOf' ops.toList b o i=.A (dstsOf (fun j=>!ordered b i j) ops.toList 0) (blankOf ops.toList b i):=by
      unfold kindOf';rw[hz,hl];rfl
     have hcui:cu≤i:=by
      by_cases hh:i<cu
      ·exact absurd ((I.acts i o ho' hact).2 hh) hni
      ·omega
     obtain⟨k1,k2,k3,k4⟩:=T.h_keep (c:=cu) i hcui (by omega) fun j x h1 h2 hj=>by
      cases ha:isA x.op with
      |false=>rfl
      |true=>
       have:=(I.acts j x hj ha).1 (hbef j (O.acts j i x o h2 hj ho' ha hact))
       omega
     have hdi:=k4 I.hcu.2
     rw[hk]at step
     generalize hS':S (i+1)=s' at step
     have SS:SR c E n (blurAll (S i).t (blankOf ops.toList b i)) (S i).h (S i).d (S i).r a u w:=⟨I.hg,htr,I.hn,by rw[k1];exact I.adv.wr,by rw[k2];exact I.hd,by rw[k3];exact I.hr⟩
     have F1':FxOk E X fn rd (S i).r.isSome:=by rw[k3];exact F1
     cases step with
     |adead hd=>rw[hdi]at hd;cases hd
     | @a _ _ _ t1 h1 d1 r1 t' hd hx hpend hp=>
      have H:=opStep_end (k:=k) (rest:=Region.linearise.go .any ops fuel tn' (listed.setIfInBounds i true) []) C hcall ho SS F1' hx
      cases H with
      |pan A hv st' hh=>cases hh
      | @val v' x E' h' d' r' u' w' df A hv hd' hr hrs st' hh=>
       obtain⟨t3,e1,hp3⟩:=putK_ret hh
       cases e1
       have A':Adv E (S cu).h w E' h1 w':=by rw[← k1];exact A
       have hSh:(S (i+1)).h=h1:=by rw[hS']
       have hSd:(S (i+1)).d=d1:=by rw[hS']
       have hSr:(S (i+1)).r=r1:=by rw[hS']
       have hSdd:(S (i+1)).dd=none:=by rw[hS'];exact hdi
       have hSt:(S (i+1)).t=t':=by rw[hS']
       refine go (.inl ⟨hact,rfl⟩) ⟨by omega,hSdd⟩ (by rw[hSh];exact I.adv.trans A') A.le (by rw[hSd];exact hd') (by rw[hSr];exact hr) (by rw[hSr,hrs,k3];exact I.hrs) (by rw[hSh];exact Nat.le_trans I.hlen A'.len) ?_ (by rw[hSh];exact hidle' A') st'
       intro s hs
       refine⟨hp.2 s hs,?_⟩
       rw[hSt,hp.1 s,if_pos hs,hs]
       simp only
       rw[hp3.1 s,if_pos hs]
       exact hv
     | @aexit _ _ _ e t1 h1 d1 r1 hd he hx=>
      have H:=opStep_end (k:=k) (rest:=Region.linearise.go .any ops fuel tn' (listed.setIfInBounds i true) []) C hcall ho SS F1' hx
      cases H with
      | @val v' x E' h' d' r' u' w' df A hv hd' hr hrs st' hh=>
       obtain⟨t3,e1,hp3⟩:=putK_ret hh
       cases e1
       exact absurd rfl he
      | @pan v x E' h' w' A hv st' hh=>
       cases hh
       have A':Adv E (S cu).h w E' h1 w':=by rw[← k1];exact A
       have hdd:(S ops.toList.length).dd=some (i,.mk (.pan v) (blurAll (S i).t (dstsOf (fun j=>!ordered b i j) ops.toList 0)) h1 (S i).d (S i).r):=
        T.dd_stay _ (i+1) (by omega) (Nat.le_refl _) (by rw[hS'])
       unfold DS.fin
       rw[hdd]
       refine⟨E',a,u,w',I.adv.trans A',⟨I.hg.mono A.le,?_,I.hn,A.wr,by rw[k2];exact I.hd.mono A.le,by rw[k3];exact I.hr.mono A.le⟩,by rw[k3];exact I.hrs,_,x,hv,st.trans st'⟩
       intro s
       rw[blurAll_get]
       split
       ·exact .un _
       ·rename_i hsn
        have hall:∀ (j:Nat) (o':Oper),ops.toList[j]?=some o'→o'.dst=some s→ordered b i j=true:=by
         intro j o' hj hds
         cases hh:ordered b i j with
         |true=>rfl
         |false=>exact absurd (dstsOf_mem.2 ⟨j,o',hj,by rw[Nat.zero_add];simp [hh],hds⟩) hsn
        refine(I.slot T (i:=i) (by omega) ?_ ?_).mono A.le
        ·intro j o' hj hjo hds
         exact absurd (I.closed i j hj (hall j o' hjo hds)) hni
        ·intro j o' hj hjo hds
         have:=O.below j (by omega) i (hall j o' hjo hds)
         omega
theorem WR.app{E h w} (W:WR E h w) (l:List Ob):WR E (h++l) w:=by
 have hlt:∀ {i g x},E.a i g=some x→i<h.length:=fun {i g x} hx=>by
  by_cases hh:i<h.length
  ·exact hh
  ·rw[W.new i g (Nat.le_of_not_lt hh)]at hx;cases hx
 have hg:∀ {i},i<h.length→hget (h++l) i=hget h i:=fun {i} hi=>by rw[hget_eq,hget_eq,List.getElem?_append_left hi]
 refine⟨W.bnd,W.frz,?_,?_,?_,?_,?_,?_⟩
 ·intro i b n _ ha
  have:=hlt ha
  rw[hg this]at ha ⊢
  exact W.obj i b n this ha
 ·intro i b n _ ha hs
  have:=hlt ha
  rw[hg this]at ha hs
  exact W.own i b n this ha hs
 ·intro i j b n m _ _ ha hb h1 h2
  have k1:=hlt ha
  have k2:=hlt hb
  rw[hg k1]at ha h1
  rw[hg k2]at hb h2
  exact W.inj i j b n m k1 k2 ha hb h1 h2
 ·intro i g hi hgg
  by_cases hh:i<h.length
  ·rw[hg hh]at hgg;exact W.old i g hh hgg
  ·exact W.new i g (Nat.le_of_not_lt hh)
 ·intro i g hi
  exact W.new i g (by simp at hi;omega)
 ·intro i g x _ hx
  have:=hlt hx
  rw[hg this]
  exact W.cur i g x this hx
theorem Adv.app{E h w} (W:WR E h w) (l:List Ob):Adv E h w E (h++l) w:=by
 have hlt:∀ {i g x},E.a i g=some x→i<h.length:=fun {i g x} hx=>by
  by_cases hh:i<h.length
  ·exact hh
  ·rw[W.new i g (Nat.le_of_not_lt hh)]at hx;cases hx
 have hg:∀ {i},i<h.length→hget (h++l) i=hget h i:=fun {i} hi=>by rw[hget_eq,hget_eq,List.getElem?_append_left hi]
 refine⟨E.le_refl,W.app l,Keep.refl _ _ _,?_,fun b vs h1 h2=>(by rw[h1]at h2;cases h2),by simp,fun i hi hn=>⟨hg hi,hn⟩⟩
 intro i b n _ hd ha _
 have:=hlt ha
 rw[hg this]at hd ha ⊢
 exact⟨i,n,this,hd,ha,id⟩
theorem draw_ok(C:CtxOk c P) (hcall:CallOk c P call) {id:Nat} :
  KOk c P X fn rd n (.code (.region id ops true)::k) k (drawReg ⟨c,call,fn,n,rd⟩ ops.toList (drawInfo ops.toList)):=by
 intro E t h d r a u w o S0 F ho
 obtain⟨S,T,ht,hd,hr,rfl⟩:=trace_of ho
 have hfin:(S 0).h=Hp c ops.toList h ops.toList.length:=T.hoisted.fin
 obtain⟨l,hl⟩:=Hp_pre c ops.toList h ops.toList.length 0 (by omega)
 have hS0:(S 0).h=h++l:=by rw[hfin,hl];rfl
 have st:Steps P (St X a (.code (.region id ops true)::k) u w) (St X a (.inRegion ops (Region.linearise.go .any ops ops.size (w.tape w.drawn (.order X.b.fn id)) (Array.replicate ops.size false) [])::k) u {w with drawn:=w.drawn+1}):=by
  have:=fstep_region_draw (P:=P) (b:=X.b) (a:=a) (k:=k) (cs:=X.cs u) (w:=w) (ops:=ops) (id:=id)
  rw[C.mixed]at this
  exact .one this
 have A0:Adv E h w E h {w with drawn:=w.drawn+1}:=Adv.drawn S0.w _
 have A1:Adv E h w E (S 0).h {w with drawn:=w.drawn+1}:=by rw[hS0];exact A0.trans (Adv.app A0.wr l)
 have hfalse:∀ j,¬((Array.replicate ops.size false).getD j false=true):=by
  intro j
  rw[Array.getD_eq_getD_getElem?,Array.getElem?_replicate]
  split<;>simp
 refine sim_ok (X:=X) (k:=k) (r0:=r) C hcall T S0.w F ops.size _ (Array.replicate ops.size false) 0 E a u _ (by simp) (Nat.le_trans (List.length_filter_le _ _) (by simp)) ?_ st
 refine⟨fun i j hj=>absurd hj (hfalse j),fun i hi=>absurd hi (hfalse i),⟨Nat.zero_le _,T.dd0⟩,fun i o _ _=>⟨fun hi=>absurd hi (hfalse i),fun hi=>by omega⟩,A1,S0.g,S0.n,by rw[hd];exact S0.d,by rw[hr];exact S0.r,by rw[hr],Nat.le_refl _,?_,?_,?_⟩
 ·intro s _
  rw[ht];exact S0.t s
 ·intro s j o' hj
  exact absurd hj (hfalse j)
 ·intro i o' hi hz _
  obtain⟨r2,hr2⟩:=Hp_pre c ops.toList h i 0 (by omega)
  refine⟨fun g=>S0.w.new _ g ?_,rfl⟩
  rw[hr2];show h.length≤(h++r2).length;simp
end
end Go.Ai

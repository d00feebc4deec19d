/- What is proved: the interpreter is sound: a call that it carries out is what the kit's judgement of calls says ('callN_ok', 'calls_of'). Conditions: the context is the program's, and contracts that are taken in place of runs are proved. -/
import Derived.Test.YtepjcfcfpjhpgaaGreatDoorPA07
set_option linter.all false
namespace Go.Ai
open Go Go.RowKit
theorem run_getLoop{P:Program} {w:World} {b:Nat} {L:Loop} (h:w.heap[b]?=some (.loop L)):(Instr.getLoop b).run P w=.ok L w:=by
 simp [Instr.getLoop,getObj,Sem.run,h]
theorem run_setLoop{P:Program} {w:World} {b:Nat} {L:Loop} (h:w.heap[b]?=some (.loop L)) (L':Loop) :
  (setObj b (.loop L')).run P w=.ok () {w with heap:=w.heap.setIfInBounds b (.loop L')}:=by
 simp [setObj,Sem.run,h]
theorem run_takeDeferred{P:Program} {w:World} {b:Nat} {ds:List Deferred} (h:w.heap[b]?=some (.deferred (some ds))) :
  (Instr.takeDeferred b).run P w=.ok ds {w with heap:=w.heap.setIfInBounds b (.deferred none)}:=by
 simp [Instr.takeDeferred,getObj,setObj,Sem.run,h]
theorem run_endLoop{P:Program} {w:World} {b:Nat} {L:Loop} (h:w.heap[b]?=some (.loop L)) (hs:L.state ≠ .busy) :
  (Instr.endLoop b).run P w=.ok L.pending {w with heap:=w.heap.setIfInBounds b (.loop {L with state:=.exhausted})}:=by
 have hb:(L.state == .busy)=false:=by
  cases hst:L.state<;>first|rfl|exact absurd hst hs
 simp [Instr.endLoop,run_getLoop h,run_setLoop h]
 intro hh;exact absurd hh hs
section
variable {P:Program} {b:Frame} {a:Act} {k:List Item} {cs:List Frame} {w w2 w3:World}
theorem fstep_range_enter{f:Operand} {params:Array Tmp} {asg bd:Code} {l:Nat} {mark:List Deferred} {g:FuncId} {vs:Array Value}
  (h1:(Instr.enterLoop b.fn a.tmps params asg bd b.roundOf).run P w=.ok (l,mark) w2)
  (h2:(do let d ← Deferred.ofValue (a.eval f) #[.func (.yield l) #[] #[]];invoke d.target d.args:Sem Next).run P w2=.ok (.enter g vs) w3) :
  step P (lone (fat b a (.code (.rangeFunc f params asg bd)::k)) cs w) =
   .next (lone (Frame.enter P g vs .normal) (fat b {a with defers:=mark++a.defers} (.inRangeFunc l::k)::cs) w3):=by
 have e:=fat_eval b {a with defers:=mark++a.defers} (.inRangeFunc l::k)
 have e':({a with defers:=mark++a.defers}:Act).eval=a.eval:=by funext x;cases x<;>rfl
 rw[e']at e
 simp only[fat]at e
 have h2':Sem.run P (do let d ← resolve a.eval {callee:=.value f,args:=#[.const (.func (.yield l) #[] #[])],argTypes:=#[]} 0;invoke d.target d.args:Sem Next) w2=.ok (.enter g vs) w3:=by
  rw[← h2];simp [resolve,Act.eval]
 exact step_lone_go (by
  simp only[stepG,stepG.exec,fat,Sem.runT_eq,h1,stepG.apply,e,h2']
  rfl)
theorem fstep_range_round{f:Operand} {params:Array Tmp} {asg bd:Code} {l:Nat} {mark:List Deferred} {l2:Nat} {g:FuncId} {tmps:Array Value} {c1 c2:Code}
  (h1:(Instr.enterLoop b.fn a.tmps params asg bd b.roundOf).run P w=.ok (l,mark) w2)
  (h2:(do let d ← Deferred.ofValue (a.eval f) #[.func (.yield l) #[] #[]];invoke d.target d.args:Sem Next).run P w2=.ok (.round l2 g tmps c1 c2) w3) :
  step P (lone (fat b a (.code (.rangeFunc f params asg bd)::k)) cs w) =
   .next (lone (Frame.round l2 g tmps c1 c2 .normal) (fat b {a with defers:=mark++a.defers} (.inRangeFunc l::k)::cs) w3):=by
 have e:=fat_eval b {a with defers:=mark++a.defers} (.inRangeFunc l::k)
 have e':({a with defers:=mark++a.defers}:Act).eval=a.eval:=by funext x;cases x<;>rfl
 rw[e']at e
 simp only[fat]at e
 have h2':Sem.run P (do let d ← resolve a.eval {callee:=.value f,args:=#[.const (.func (.yield l) #[] #[])],argTypes:=#[]} 0;invoke d.target d.args:Sem Next) w2=.ok (.round l2 g tmps c1 c2) w3:=by
  rw[← h2];simp [resolve,Act.eval]
 exact step_lone_go (by
  simp only[stepG,stepG.exec,fat,Sem.runT_eq,h1,stepG.apply,e,h2']
  rfl)
theorem fstep_range_end{l:Nat} {j:Option Code} (h:(Instr.endLoop l).run P w=.ok j w2) :
  step P (lone (fat b a (.endRangeFunc l::k)) cs w)=.next (lone (fat b a ((j.map Item.code).toList++k)) cs w2):=
 step_lone_go (by simp [stepG,stepG.exec,fat,h])
end
theorem loop_at{E h w i b n st p fn nt t ps a bd df} (W:WR E h w) (ha:E.a i 0=some (b,n)) (hh:hget h i=.loop (.mk st p fn nt t ps a bd df)) :
  ∃ L:Loop,w.heap[b]?=some (.loop L)∧L.state=st∧L.pending=p∧L.fn=fn∧L.tmps.size=nt∧TR E t L.tmps∧L.params.toList=ps∧L.assign=a∧L.body=bd∧∃ m,E.a df 0=some (L.defers,m):=by
 have hi:i<h.length:=lt_of_hget (by rw[hh];rfl)
 have ho:=W.obj i b n hi (by rw[hh];exact ha)
 rw[hh]at ho
 generalize hw:w.heap[b]?=x at ho
 cases ho with
 | @loop _ _ _ _ _ _ _ _ _ _ _ L h1 h2 h3 h4 h5 h6 h7 h8 h9=>exact⟨L,rfl,h1,h2,h3,h4,h5,h6,h7,h8,h9⟩
theorem loop_set{E h w i b n st p fn nt t ps a bd df} {L:Loop} (W:WR E h w) (ha:E.a i 0=some (b,n)) (hh:hget h i=.loop (.mk st p fn nt t ps a bd df)) (st':LoopState) (p':Option Code)
  (hL:w.heap[b]?=some (.loop L)) (h3:L.fn=fn) (h4:L.tmps.size=nt) (h5:TR E t L.tmps) (h6:L.params.toList=ps) (h7:L.assign=a) (h8:L.body=bd) (h9:∃ m,E.a df 0=some (L.defers,m)) :
  Adv E h w E (hset h i (.loop (.mk st' p' fn nt t ps a bd df))) {w with heap:=w.heap.setIfInBounds b (.loop {L with state:=st',pending:=p'})}:=by
 have hlt:b<w.heap.size:=(Array.getElem?_eq_some_iff.1 hL).1
 refine Adv.set W (i:=i) (b:=b) (n:=n) (by rw[hh];exact ha) (by rw[hh];rfl) (by rw[hh];rfl) rfl ?_ rfl rfl rfl (by simp) ?_
 ·have:({w with heap:=w.heap.setIfInBounds b (.loop {L with state:=st',pending:=p'})}:World).heap[b]?=some (.loop {L with state:=st',pending:=p'}):=by
   simp [hlt]
  rw[this]
  exact .loop rfl rfl h3 h4 h5 h6 h7 h8 h9
 ·intro j hj
  simp [Array.getElem?_setIfInBounds_ne (Ne.symm hj)]
section
variable {c:Ctx} {P:Program} {call:CallF} {X:Fx} {fn:FuncId} {rd:Option Nat} {n:Nat}
theorem seqK_ok{it m:Item} {k:List Item} {Kx Ky:K} (hm:∀ id,exitTo id (m::k)=exitTo id k) (hx:KOk c P X fn rd n (it::m::k) (m::k) Kx)
  (hy:KOk c P X fn rd n (m::k) k Ky):KOk c P X fn rd n (it::m::k) k (fun t h d r=>seqK (Kx t h d r) Ky):=by
 intro E t h d r a u w o S F ho
 simp only at ho
 cases hk:Kx t h d r with
 |none=>rw[hk]at ho;cases ho
 |some q=>
  have G:=hx E t h d r a u w q S F hk
  rw[hk]at ho
  obtain⟨e,t',h',d',r'⟩:=q
  obtain⟨E',a',u',w',A,S',hr,st⟩:=G
  cases e with
  |n=>exact(hy E' t' h' d' r' a' u' w' o S' (by rw[hr];exact F.mono A.le) ho).step st A hr
  |exit id=>cases ho;exact⟨E',a',u',w',A,S',hr,Ended.pass (by simp) hm st⟩
  |ret=>cases ho;exact⟨E',a',u',w',A,S',hr,Ended.pass (by simp) hm st⟩
  |pan v=>cases ho;exact⟨E',a',u',w',A,S',hr,Ended.pass (by simp) hm st⟩
theorem nK_ok{todo k:List Item} (hs:∀ a cs w,step P (lone (fat X.b a todo) cs w)=.next (lone (fat X.b a k) cs w)):KOk c P X fn rd n todo k (fun t h d r=>some (.mk .n t h d r)):=by
 intro E t h d r a u w o S F ho
 cases ho
 exact⟨E,a,u,w,Adv.refl S.w,S,rfl,.one (hs a _ w)⟩
theorem rangeGo_ok(hcall:CallOk c P call) {k:List Item} {ih:Code→K} (hih:∀ j,KOk c P X fn rd n (.code j::k) k (ih j))
  {E t h d r a u w o fv ps asg bd df l b nb} {L:Loop} {m0:Machine} {f:Operand} (S:SR c E n t h d r a u w) (F:FxOk E X fn rd r.isSome)
  (hl:l=h.length) (hfv:VR E fv (a.eval f)) (hb:b=w.heap.size)
  (hL:L={state:=.ready,pending:=none,fn,tmps:=a.tmps,params:=ps,assign:=asg,body:=bd,defers:=L.defers}) (hdf:E.a df 0=some (L.defers,nb))
  (he : ∀ g vs, (do let d ← Deferred.ofValue (a.eval f) #[.func (.yield b) #[] #[]]; invoke d.target d.args : Sem Next).run P { w with heap := w.heap.push (.loop L) } = .ok (.enter g vs) { w with heap := w.heap.push (.loop L) } →
   step P m0=.next (lone (Frame.enter P g vs .normal) (fat X.b a (.inRangeFunc b::k)::X.cs u) {w with heap:=w.heap.push (.loop L)}))
  (hr : ∀ l2 g tmps c1 c2, (do let d ← Deferred.ofValue (a.eval f) #[.func (.yield b) #[] #[]]; invoke d.target d.args : Sem Next).run P { w with heap := w.heap.push (.loop L) } = .ok (.round l2 g tmps c1 c2) { w with heap := w.heap.push (.loop L) } →
   step P m0=.next (lone (Frame.round l2 g tmps c1 c2 .normal) (fat X.b a (.inRangeFunc b::k)::X.cs u) {w with heap:=w.heap.push (.loop L)}))
  (ho:loopGo ⟨c,call,fn,n,rd⟩ ih ps.toList asg bd fv t h d r df l=some o):Good c P X m0 k E h w n r o:=by
 unfold loopGo at ho
 cases ht:target? fv [.yield l]with
 |none=>rw[ht]at ho;cases ho
 |some cl=>
  rw[ht]at ho
  simp only[lnf_eq]at ho
  have A0:Adv E h w (E.put h.length 0 (w.heap.size,0)) (h++[.loop (.mk .ready none fn n t ps.toList asg bd df)]) {w with heap:=w.heap.push (.loop L)}:=by
   refine Adv.push S.w rfl (.loop ?_ ?_ ?_ ?_ ?_ ?_ ?_ ?_ ⟨nb,hdf⟩)<;>rw[hL]
   ·exact S.n
   ·exact S.t
  have hl0:(E.put h.length 0 (w.heap.size,0)).a l 0=some (b,0):=by rw[hl,hb];exact Rn.put_self _ _ _ _
  generalize E.put h.length 0 (w.heap.size,0)=E0 at A0 hl0
  have I:=(target_ok (P:=P) (w:={w with heap:=w.heap.push (.loop L)}) (hfv.mono A0.le) (vs:=#[.func (.yield b) #[] #[]]) (LR.one (.yield hl0)) ht).1
  obtain⟨e,h',r',H,hf⟩:=inner_ok hcall ho
  have S0:=S.adv A0
  obtain⟨E',w',x,A,hv,st⟩:=call_back H S0.w S0.g I he hr
  have S1:=S0.adv A
  cases e with
  |pan v=>cases hf;exact⟨E',a,u,w',A0.trans A,S1,rfl,_,x,hv,st⟩
  |ret v=>
   simp only[loopEnd]at hf
   have hl1:=A.le.a _ _ _ hl0
   cases hh:hget h' l with
   |loop l'=>
    rw[hh]at hf
    obtain⟨st0,p,fn',n',t',ps',a',b',df'⟩:=l'
    obtain⟨L',g1,g2,g3,g4,g5,g6,g7,g8,g9,g10⟩:=loop_at S1.w hl1 hh
    have hne:st0 ≠ .busy:=by intro hh2;subst hh2;cases hf
    have A1:=loop_set S1.w hl1 hh .exhausted p g1 g4 g5 g6 g7 g8 g9 g10
    have st1:Steps P m0 (lone (fat X.b a ((p.map Item.code).toList++k)) (X.cs u) {w' with heap:=w'.heap.setIfInBounds b (.loop {L' with state:=.exhausted,pending:=p})}):=by
     refine st.trans (.one ?_)
     have:=run_endLoop (P:=P) g1 (by rw[g2];exact hne)
     rw[g3]at this
     exact fstep_range_end this
    have hf':(match p with
      |none=>some (.mk .n t (hset h' l (.loop (.mk .exhausted p fn' n' t' ps' a' b' df'))) d r)
      |some j=>ih j t (hset h' l (.loop (.mk .exhausted p fn' n' t' ps' a' b' df'))) d r)=some o:=by
     cases p<;>cases st0<;>first|exact absurd rfl hne|(simpa only[hsetK_eq]using hf)
    cases p with
    |none=>
     simp only[Option.some.injEq]at hf'
     subst hf'
     exact⟨E',a,u,_,(A0.trans A).trans A1,S1.adv A1,rfl,st1⟩
    |some j=>
     exact(hih j E' t _ d r a u _ o (S1.adv A1) (F.mono ((A0.trans A).trans A1).le) hf').step st1 ((A0.trans A).trans A1) rfl
   |_=>rw[hh]at hf;cases hf
theorem range_ok(hcall:CallOk c P call) {k:List Item} {ih:Code→K} (hih:∀ j,KOk c P X fn rd n (.code j::k) k (ih j)) {f:Operand} {ps:Array Tmp} {asg bd:Code} :
  KOk c P X fn rd n (.code (.rangeFunc f ps asg bd)::k) k (cRange f ps asg bd ⟨c,call,fn,n,rd⟩ ih):=by
 intro E t h d r a u w o S F ho
 unfold cRange at ho
 cases rd with
 |none=>
  have hro:X.b.roundOf=none:=by
   rcases F.rd with⟨_,h2⟩|⟨i,b,n,h1,_⟩
   ·exact h2
   ·cases h1
  simp only[forceN_eq,lnf_eq]at ho
  have A0:Adv E h w (E.put h.length 0 (w.heap.size,0)) (h++[.defd false]) {w with heap:=w.heap.push (.deferred (some []))}:=
   Adv.push S.w rfl .defd
  have hdf:(E.put h.length 0 (w.heap.size,0)).a h.length 0=some (w.heap.size,0):=Rn.put_self _ _ _ _
  generalize E.put h.length 0 (w.heap.size,0)=E0 at A0 hdf
  have S0:SR c E0 n t (h++[.defd false]) (.coll h.length::d) r {a with defers:={target:=.collected w.heap.size,args:=#[]}::a.defers} u {w with heap:=w.heap.push (.deferred (some []))}:=
   ⟨S.g.mono A0.le,S.t.mono A0.le,S.n,A0.wr,.cons (.coll hdf) (S.d.mono A0.le),S.r.mono A0.le⟩
  have hent:(Instr.enterLoop X.b.fn a.tmps ps asg bd X.b.roundOf).run P w =
    .ok (w.heap.size+1,[{target:=.collected w.heap.size,args:=#[]}]) {w with heap:=(w.heap.push (.deferred (some []))).push (.loop {state:=.ready,pending:=none,fn,tmps:=a.tmps,params:=ps,assign:=asg,body:=bd,defers:=w.heap.size})}:=by
   rw[hro,F.fn]
   simp [Instr.enterLoop,newObj,Sem.run]
   rfl
  have ev1:VR E0 (ev c t f) (a.eval f):=(ev_ok S.g S.t f).mono A0.le
  have G:=rangeGo_ok (X:=X) (m0:=St X a (.code (.rangeFunc f ps asg bd)::k) u w) (f:=f) (b:=w.heap.size+1) (L:={state:=.ready,pending:=none,fn,tmps:=a.tmps,params:=ps,assign:=asg,body:=bd,defers:=w.heap.size})
   hcall hih S0 (F.mono A0.le) (by simp) (by
    have e':({a with defers:={target:=.collected w.heap.size,args:=#[]}::a.defers}:Act).eval=a.eval:=by funext x;cases x<;>rfl
    rw[e'];exact ev1) (by simp) rfl hdf ?_ ?_ ho
  ·exact G.step (.refl P _) A0 rfl
  ·intro g vs hr
   exact fstep_range_enter hent hr
  ·intro l2 g tmps c1 c2 hr
   exact fstep_range_round hent hr
 |some l0=>
  simp only at ho
  cases hh:hget h l0 with
  |loop l'=>
   rw[hh]at ho
   obtain⟨st0,p,fn',n',t',ps',a',b',df'⟩:=l'
   simp only[forceN_eq]at ho
   rcases F.rd with⟨h1,_⟩|⟨i,b,nb,h1,h2,h3⟩
   ·cases h1
   ·cases h1
    obtain⟨L,g1,g2,g3,g4,g5,g6,g7,g8,g9,nd,g10⟩:=loop_at S.w h2 hh
    have hent:(Instr.enterLoop X.b.fn a.tmps ps asg bd X.b.roundOf).run P w =
      .ok (w.heap.size,[]) {w with heap:=w.heap.push (.loop {state:=.ready,pending:=none,fn,tmps:=a.tmps,params:=ps,assign:=asg,body:=bd,defers:=L.defers})}:=by
     rw[h3,F.fn]
     simp [Instr.enterLoop,newObj,Sem.run,run_getLoop g1]
    exact rangeGo_ok (X:=X) (m0:=St X a (.code (.rangeFunc f ps asg bd)::k) u w) (f:=f) (b:=w.heap.size) (L:={state:=.ready,pending:=none,fn,tmps:=a.tmps,params:=ps,assign:=asg,body:=bd,defers:=L.defers})
     hcall hih S F rfl (ev_ok S.g S.t f) rfl rfl g10 (fun g vs hr=>fstep_range_enter hent hr) (fun l2 g tmps c1 c2 hr=>fstep_range_round hent hr) ho
  |_=>rw[hh]at ho;cases ho
theorem exec_ok(C:CtxOk c P) (hcall:CallOk c P call):∀ (f:Nat) (b:Code),
  (∀ k,KOk c P X fn rd n (.code b::k) k (exec ⟨c,call,fn,n,rd⟩ f b)) ∧
  ∀ b',b=.loop b'→∀ k,KOk c P X fn rd n (.inLoop b'::k) k (exec ⟨c,call,fn,n,rd⟩ f b):=by
 intro f
 induction f with
 |zero=>intro b;exact⟨fun k E t h d r a u w o S F ho=>(by cases ho),fun b' _ k E t h d r a u w o S F ho=>(by cases ho)⟩
 |succ f ih=>
  intro b
  have ih1:=fun b k=>(ih b).1 k
  have loopcase:∀ b' k,b=.loop b'→KOk c P X fn rd n (.code b' :: .inLoop b'::k) k (exec ⟨c,call,fn,n,rd⟩ (f+1) b):=by
   intro b' k hb
   subst hb
   exact seqK_ok (m:=.inLoop b') (fun _=>rfl) (ih1 b' _) ((ih (.loop b')).2 b' rfl k)
  refine⟨fun k=>?_,fun b' hb k=>.steps (fun a u w=>.one fstep_inLoop) (loopcase b' k hb)⟩
  cases hb:b with
  |skip=>exact nK_ok fun _ _ _=>fstep_skip
  |label l=>exact nK_ok fun _ _ _=>fstep_label
  |region id ops draw=>
   cases draw with
   |false=>
    refine .steps (fun a u w=>.one fstep_region) ?_
    have:=opsRun_ok (X:=X) (fn:=fn) (rd:=rd) (n:=n) (k:=k) C hcall (ops:=ops) ops.size 0 (by omega)
    rw[List.drop_zero,← List.range_eq_range']at this
    exact this
   |true=>exact draw_ok C hcall
  |seq x y=>exact .steps (fun a u w=>.one fstep_seq) (seqK_ok (m:=.code y) (fun _=>rfl) (ih1 x _) (ih1 y k))
  |cond x p q=>
   intro E t h d r a u w o S F ho
   have ho':cCond x p q ⟨c,call,fn,n,rd⟩ (exec ⟨c,call,fn,n,rd⟩ f) t h d r=some o:=ho
   unfold cCond at ho'
   have hv:=ev_ok S.g S.t x
   split at ho'
   ·rename_i q' hq
    rw[hq]at hv
    have hp:=hv.p_inv
    split at ho'
    ·rename_i z
     have hz:a.eval x=.bool z:=by generalize a.eval x=y at hp;cases hp;rfl
     cases z with
     |true=>exact(ih1 p k E t h d r a u w o S F ho').step (.one (fstep_cond hz)) (Adv.refl S.w) rfl
     |false=>exact(ih1 q k E t h d r a u w o S F ho').step (.one (fstep_cond hz)) (Adv.refl S.w) rfl
    ·cases ho'
   ·cases ho'
  |block id b=>
   intro E t h d r a u w o S F ho
   have ho':cBlock id b ⟨c,call,fn,n,rd⟩ (exec ⟨c,call,fn,n,rd⟩ f) t h d r=some o:=ho
   unfold cBlock at ho'
   cases hk:exec ⟨c,call,fn,n,rd⟩ f b t h d r with
   |none=>rw[hk]at ho';cases ho'
   |some q=>
    have G:=ih1 b (.inBlock id::k) E t h d r a u w q S F hk
    rw[hk]at ho'
    obtain⟨e,t',h',d',r'⟩:=q
    obtain⟨E',a',u',w',A,S',hr,st⟩:=G
    have st0:Steps P (St X a (.code (.block id b)::k) u w) (St X a (.code b :: .inBlock id::k) u w):=.one fstep_block
    cases e with
    |n=>cases ho';exact⟨E',a',u',w',A,S',hr,st0.trans (Steps.trans st (.one fstep_inBlock))⟩
    |exit i=>
     simp only at ho'
     obtain⟨k0,h1,h2⟩:=st
     cases hi:Nat.beq i id with
     |true=>
      rw[hi]at ho'
      cases ho'
      have hid:=Nat.eq_of_beq_eq_true hi
      subst hid
      refine⟨E',a',u',w',A,S',hr,st0.trans (h2.trans (.one (fstep_exit ?_)))⟩
      rw[h1];simp [exitTo]
     |false=>
      rw[hi]at ho'
      cases ho'
      have hne:(id == i)=false:=by
       simp;intro hh;subst hh;simp at hi
      exact⟨E',a',u',w',A,S',hr,k0,(by rw[h1];simp [exitTo,hne]),st0.trans h2⟩
    |ret=>cases ho';obtain⟨k0,h2⟩:=st;exact⟨E',a',u',w',A,S',hr,k0,st0.trans h2⟩
    |pan v=>cases ho';obtain⟨k0,x,h1,h2⟩:=st;exact⟨E',a',u',w',A,S',hr,k0,x,h1,st0.trans h2⟩
  |loop b'=>subst hb;exact .steps (fun a u w=>.one fstep_loop) (loopcase b' k rfl)
  |rangeFunc g ps x y=>exact range_ok hcall (fun j=>ih1 j k)
  |exit id=>
   intro E t h d r a u w o S F ho
   cases ho
   exact⟨E,a,u,w,Adv.refl S.w,S,rfl,k,rfl,.refl P _⟩
  |scope b=>
   have h1:=seqK_ok (m:=.inScope b) (k:=k) (fun _=>rfl) (ih1 b (.inScope b::k)) (nK_ok (c:=c) (P:=P) (fn:=fn) (rd:=rd) (n:=n) fun _ _ _=>fstep_inScope)
   refine .steps (fun a u w=>.one fstep_scope) ?_
   intro E t h d r a u w o S F ho
   refine h1 E t h d r a u w o S F ?_
   have ho':exec ⟨c,call,fn,n,rd⟩ f b t h d r=some o:=ho
   simp only
   rw[ho']
   obtain⟨e,t',h',d',r'⟩:=o
   cases e<;>rfl
  |ret=>
   intro E t h d r a u w o S F ho
   cases ho
   exact⟨E,a,u,w,Adv.refl S.w,S,rfl,k,.refl P _⟩
  |goto l=>intro E t h d r a u w o S F ho;cases ho
  |refuse s=>intro E t h d r a u w o S F ho;cases ho
end
section
variable {c:Ctx} {P:Program} {call:CallF}
def resVF(tmps:Array Value):ResultVar→Sem Value
 |.tmp t=>pure (tmps.getD t undef)
 |.cell a t=>do loadVar t (← asAddr (tmps.getD a undef))
theorem results_eq (fn : Func) (tmps : Array Value) : results fn tmps = (do
  let vs ← fn.results.mapM (resVF tmps)
  pure (if h:vs.size=1 then vs[0]else .tuple vs)):=by
 unfold results
 have:(fun x=>match x with
  |ResultVar.tmp t=>pure (tmps.getD t undef)
  |.cell a t=>do loadVar t (← asAddr (tmps.getD a undef)))=resVF tmps:=by
  funext x;cases x<;>rfl
 exact congrArg (fun g => (do
  let vs ← fn.results.mapM g
  pure (if h:vs.size=1 then vs[0]else .tuple vs):Sem Value)) this
theorem load_as{ty:TypeId} {v x:Value} {w:World} (h:(Instr.loadAt ty v).run P w=.ok x w):(do loadVar ty (← asAddr v):Sem Value).run P w=.ok x w:=by
 cases v with
 |pointer a=>
  cases a with
  |none=>simp [Instr.loadAt,Instr.sureAddr,stuck]at h
  |some a=>simpa [Instr.loadAt,Instr.sureAddr,asAddr]using h
 |_=>simp [Instr.loadAt,Instr.sureAddr,stuck]at h
theorem results_ok(C:CtxOk c P) {E h w t} {tmps:Array Value} (W:WR E h w) (ht:TR E t tmps):∀ (l:List ResultVar) (vs:List AV),results? c h t l=some vs →
  ∃ xs:List Value,LR E vs xs∧(l.mapM (resVF tmps)).run P w=.ok xs w:=by
 intro l
 induction l with
 |nil=>intro vs h;simp only[results?,Option.some.injEq]at h;subst h;exact⟨[],.nil,by simp⟩
 |cons x l ih=>
  intro vs h
  cases x with
  |tmp i=>
   simp only[results?]at h
   split at h
   ·rename_i m hm
    cases h
    obtain⟨xs,l1,r1⟩:=ih m hm
    refine⟨tmps.getD i undef::xs,.cons (ht i) l1,?_⟩
    simp only[List.mapM_cons,Sem.run_bind,resVF,Sem.run_pure,Result.andThen_ok,r1]
   ·cases h
  |cell a ty=>
   simp only[results?]at h
   split at h
   ·rename_i v m hv hm
    cases h
    obtain⟨xs,l1,r1⟩:=ih m hm
    obtain⟨x,hx,hvx⟩:=load_ok C W (ht a) hv
    refine⟨x::xs,.cons hvx l1,?_⟩
    have hx':(resVF tmps (.cell a ty)).run P w=.ok x w:=load_as hx
    simp only[List.mapM_cons]
    rw[Sem.run_bind,hx']
    simp only[Sem.run_bind,Sem.run_pure,Result.andThen_ok,r1]
   ·cases h
theorem results_run(C:CtxOk c P) {E h w t} {tmps:Array Value} {fn:Func} (W:WR E h w) (ht:TR E t tmps) {v:AV} {h':List Ob} {r r':Option RM} {e:AEnd}
  (hr:(match results? c h t fn.results.toList with
   |some [v]=>some (CR.mk (.ret v) h r)
   |some vs=>some (.mk (.ret (.tup vs)) h r)
   |none=>none)=some (.mk e h' r')):h'=h∧r'=r∧∃ v x,e=.ret v∧VR E v x∧(results fn tmps).run P w=.ok x w:=by
 cases hres:results? c h t fn.results.toList with
 |none=>rw[hres]at hr;cases hr
 |some vs=>
  rw[hres]at hr
  obtain⟨xs,l1,r1⟩:=results_ok C W ht _ _ hres
  have hrun:(fn.results.mapM (resVF tmps)).run P w=.ok xs.toArray w:=by
   rw[Array.mapM_eq_mapM_toList]
   simp only[Sem.run_map,r1,Result.andThen_ok]
  have hall:(results fn tmps).run P w=.ok (if h:xs.toArray.size=1 then xs.toArray[0]else .tuple xs.toArray) w:=by
   rw[results_eq,Sem.run_bind,hrun]
   rfl
  rcases vs with _|⟨v,_|⟨v2,vs⟩⟩
  ·cases hr
   have hx:xs=[]:=List.eq_nil_of_length_eq_zero (by rw[← l1.1];rfl)
   subst hx
   refine⟨rfl,rfl,_,_,rfl,?_,hall⟩
   exact .tup rfl fun i x v hx _=>by simp at hx
  ·cases hr
   obtain⟨x,rfl⟩:∃ x,xs=[x]:=by
    have:=l1.1
    rcases xs with _|⟨x,_|⟨y,xs⟩⟩
    ·simp at this
    ·exact⟨x,rfl⟩
    ·simp at this
   refine⟨rfl,rfl,_,_,rfl,?_,hall⟩
   exact l1.2 0 v x rfl rfl
  ·cases hr
   have hne:xs.toArray.size ≠ 1:=by have:=l1.1;simp at this ⊢;omega
   refine⟨rfl,rfl,_,_,rfl,?_,by rw[hall,dif_neg hne]⟩
   exact .tup (by simpa using l1.1) fun i x v hx hv=>l1.2 i x v hx (by simpa using hv)
theorem settle_ok{E m u} (h:MR E m u):MR E (settleR m) (settle u):=by
 cases h with
 |ret=>exact .ret
 | @pan v x b hv=>
  cases b with
  |true=>exact .ret
  |false=>exact .pan hv
theorem ustep_collected{fr:Frame} {cs:List Frame} {w w':World} {b:Nat} {as:Array Value} {ds calls:List Deferred} (hm:fr.mode ≠ .run) (hd:fr.defers={target:=.collected b,args:=as}::ds)
  (h:(Instr.takeDeferred b).run P w=.ok calls w'):step P (lone fr cs w)=.next (lone {fr with defers:=calls++ds} cs w'):=by
 refine step_lone_go ?_
 cases hmode:fr.mode with
 |run=>exact absurd hmode hm
 |returning=>simp [stepG,unwind,hmode,hd,h]
 |panicking chain=>simp [stepG,unwind,hmode,hd,h]
theorem MR.not_run{E m u} (h:MR E m u):u ≠ .run:=by cases h<;>simp
theorem leave_ok(C:CtxOk c P) (hcall:CallOk c P call) {fn:Func} {t:Tm} {r:Option RM}:∀ (d:List AD) (m:RM) (h:List Ob) {e h' r'},
  leave c call fn.results.toList t r d m h=some (.mk e h' r')→∀ {E w fr cs},WR E h w→GR c E→TR E t fr.tmps→DR E d fr.defers→MR E m fr.mode→P.funcs[fr.fn]?=some fn →
  r'=r∧∃ E' w' fr' x,Adv E h w E' h' w'∧VR E' e.val x∧Steps P (lone fr cs w) (lone fr' cs w')∧fr'.fn=fr.fn∧fr'.kind=fr.kind∧Fin P fr' w' e x:=by
 intro d
 induction d with
 |nil=>
  intro m h e h' r' hl E w fr cs W G ht hd hm hf
  have hnil:fr.defers=[]:=by generalize fr.defers=ds at hd;cases hd;rfl
  cases m with
  |ret=>
   have hmode:fr.mode=.returning:=by generalize fr.mode=u at hm;cases hm;rfl
   simp only[leave]at hl
   obtain⟨rfl,rfl,v,x,rfl,hv,hrun⟩:=results_run C (v:=.un) W ht hl
   exact⟨rfl,E,w,fr,x,Adv.refl W,hv,.refl P _,rfl,rfl,hmode,hnil,fn,hf,hrun⟩
  |pan v b=>
   simp only[leave]at hl
   cases b with
   |true=>simp at hl
   |false=>
    simp only[cond,Option.some.injEq,CR.mk.injEq]at hl
    obtain⟨rfl,rfl,rfl⟩:=hl
    generalize hu:fr.mode=u at hm
    cases hm with
    |pan hv=>exact⟨rfl,E,w,fr,_,Adv.refl W,hv,.refl P _,rfl,rfl,hu,hnil,fn,hf⟩
 |cons a d ih=>
  intro m h e h' r' hl E w fr cs W G ht hd hm hf
  generalize hds:fr.defers=dss at hd
  cases hd with
  | @cons _ dx _ ds hda hdl=>
  have hne:=hm.not_run
  cases a with
  |coll i=>
   simp only[leave]at hl
   cases hda with
   | @coll _ b n hb=>
   cases hh:hget h i with
   |defd tk=>
    rw[hh]at hl
    cases tk with
    |true=>simp at hl
    |false=>
     simp only[cond,hsetK_eq]at hl
     have hi:i<h.length:=lt_of_hget (by rw[hh];rfl)
     have ho:=W.obj i b n hi (by rw[hh];exact hb)
     rw[hh]at ho
     have hw:w.heap[b]?=some (.deferred (some [])):=by
      generalize w.heap[b]?=y at ho
      cases ho;rfl
     have hlt:b<w.heap.size:=(Array.getElem?_eq_some_iff.1 hw).1
     have A:Adv E h w E (hset h i (.defd true)) {w with heap:=w.heap.setIfInBounds b (.deferred none)}:=by
      refine Adv.set W (i:=i) (b:=b) (n:=n) (by rw[hh];exact hb) (by rw[hh];rfl) (by rw[hh];rfl) rfl ?_ rfl rfl rfl (by simp) ?_
      ·have:({w with heap:=w.heap.setIfInBounds b (.deferred none)}:World).heap[b]?=some (.deferred none):=by simp [hlt]
       rw[this]
       exact .defd (tk:=true)
      ·intro j hj
       simp [Array.getElem?_setIfInBounds_ne (Ne.symm hj)]
     have hst:=ustep_collected (cs:=cs) hne hds (run_takeDeferred (P:=P) hw)
     obtain⟨k1,E',w',fr',x,B,k2,k3,k4,k5,k6⟩:=ih m _ hl (fr:={fr with defers:=[]++ds}) (cs:=cs) A.wr G ht hdl hm hf
     exact⟨k1,E',w',fr',x,A.trans B,k2,.head hst k3,k4,k5,k6⟩
   |_=>rw[hh]at hl;cases hl
  |fn f args=>
   simp only[leave]at hl
   cases hda with
   | @fn _ _ cap as l=>
   obtain⟨e1,h1,r1,H,hf1⟩:=inner_ok hcall hl
   have H:=H E w fr.mode W G (fun m' hm'=>by cases hm';exact hm)
   obtain⟨g1,g2⟩:=H (as++cap) l
   obtain⟨E1,w1,u1,frX,x1,A,k1,k2,k3,k4,k5,k6,k7⟩:=g2 (fun u=>{ {fr with defers:=ds}with mode:=u}::cs) ⟨{fr with defers:=ds},cs,rfl⟩
   have hinv:(invoke (Target.fn (.func f) cap) as).run P w=.ok (.enter f (as++cap)) w:=by
    show(callFunc f (as++cap)).run P w=_
    exact g1 w
   have hst:=step_defer (P:=P) (fr:=fr) (cs:=cs) (w:=w) (ds:=ds) (fv:=.func f) (cap:=cap) (d:={target:=.fn (.func f) cap,args:=as}) hne hds rfl hinv
   cases e1 with
   |pan v=>simp at hf1
   |ret v=>
    cases r1 with
    |none=>simp at hf1
    |some m1=>
     simp only at hf1
     have hm1:MR E1 m1 u1:=k1 m1 rfl
     have hst2:=step_going_returned (P:=P) (fr:=frX) (c:={ {fr with defers:=ds}with mode:=u1}) (cs:=cs) k6 k7
     obtain⟨j1,E',w',fr',x,B,j2,j3,j4,j5,j6⟩:=ih (settleR m1) _ hf1 (fr:={ {fr with defers:=ds}with mode:=settle u1}) (cs:=cs) A.wr (G.mono A.le) (ht.mono A.le) (hdl.mono A.le) (settle_ok hm1) hf
     refine⟨j1,E',w',fr',x,A.trans B,j2,?_,j4,j5,j6⟩
     exact .head hst (Steps.trans k4 (.head hst2 j3))
theorem argTm_ok{R:Type}:∀ (l:List AV) (i:Nat) (t:Tm) (f:Tm→R),∃ t',argTm l i t f=f t'∧∀ j,t'.get j=if i≤j then(match l[j-i]? with|some v=>v|none=>t.get j)else t.get j:=by
 intro l
 induction l with
 |nil=>intro i t f;exact⟨t,rfl,fun j=>by simp⟩
 |cons v l ih=>
  intro i t f
  obtain⟨t',h1,h2⟩:=ih (i+1) (t.set i v) f
  refine⟨t',by rw[argTm,Tm.setK_eq];exact h1,?_⟩
  intro j
  rw[h2,Tm.get_set]
  by_cases e:j=i
  ·subst e
   rw[if_neg (by omega),if_pos rfl,if_pos (Nat.le_refl _),Nat.sub_self]
   rfl
  ·by_cases hj:i≤j
   ·have:j-i=(j-(i+1))+1:=by omega
    rw[if_pos (by omega),if_pos hj,this,List.getElem?_cons_succ,if_neg e]
   ·rw[if_neg (by omega),if_neg e,if_neg hj]
theorem fstep_end{b:Frame} {a:Act} {cs:List Frame} {w:World} (hr:b.roundOf=none) :
  step P (lone (fat b a []) cs w)=.next (lone {fat b a []with mode:=.returning} cs w):=
 step_lone_go (by simp [stepG,stepG.exec,fat,hr])
theorem fstep_ret{b:Frame} {a:Act} {k:List Item} {cs:List Frame} {w:World} (hr:b.roundOf=none) :
  step P (lone (fat b a (.code .ret::k)) cs w)=.next (lone {fat b a (.code .ret::k)with mode:=.returning} cs w):=
 step_lone_go (by simp [stepG,stepG.exec,fat,hr])
theorem callBody_ok(C:CtxOk c P) (hcall:CallOk c P call) {k f fn args h r e h' r'} (hf:c.fn f=some fn) (ho:callBody c call k f fn args h r=some (.mk e h' r')) :
  CallAt c P (.fn f args) h r e h' r':=by
 intro E w u W G hu vs l
 unfold callBody at ho
 cases hb:fn.body with
 |none=>rw[hb]at ho;cases ho
 |some bd=>
  rw[hb]at ho
  simp only at ho
  cases hn:Nat.ble args.length fn.ntmps with
  |false=>rw[hn]at ho;cases ho
  |true=>
   rw[hn]at ho
   simp only[cond]at ho
   have hPf:=C.fn f fn hf
   have hlen:args.length=vs.size:=by simpa using l.1
   have hle:vs.size≤fn.ntmps:=by rw[← hlen];exact Nat.le_of_ble_eq_true hn
   refine⟨?_,?_⟩
   ·intro w
    have e1:(program:Sem Program).run P w=.ok P w:=rfl
    unfold callFunc
    rw[Sem.run_bind,e1]
    have hname:¬fn.name = "runtime.NumGoroutine" := by simpa using C.named f fn hf
    simp [hPf,hname,hb]
   ·intro cs hcs
    obtain⟨t,ht1,ht2⟩:=argTm_ok args 0 .lf (fun t=>callEnd c call fn (exec {c,call,fn:=f,n:=fn.ntmps,rd:=none} k bd t h [] r))
    rw[ht1]at ho
    let X:Fx:=⟨{ (default:Frame)with fn:=f,kind:=kindOf r,roundOf:=none},cs⟩
    let a:Act:={tmps:=vs++Array.replicate (fn.ntmps-vs.size) undef,defers:=[]}
    have henter:Frame.enter P f vs (kindOf r)=fat X.b a [.code bd]:=by
     simp [Frame.enter,fat,hPf,hb,X,a]
    have S:SR c E fn.ntmps t h [] r a u w:=by
     refine⟨G,?_,?_,W,.nil,hu⟩
     ·intro i
      rw[ht2]
      simp only[Nat.zero_le,if_true,Nat.sub_zero]
      cases hi:args[i]? with
      |some v=>
       have hil:i<vs.size:=by rw[← hlen];exact(List.getElem?_eq_some_iff.1 hi).1
       have hx:=l.2 i v vs[i] hi (by simp [hil])
       have:a.tmps.getD i undef=vs[i]:=by
        apply getD_of_some
        show(vs++Array.replicate (fn.ntmps-vs.size) undef)[i]?=some vs[i]
        rw[Array.getElem?_append_left hil];simp [hil]
       rw[this];exact hx
      |none=>
       have hil:vs.size≤i:=by rw[← hlen];exact List.getElem?_eq_none_iff.1 hi
       have:a.tmps.getD i undef=undef:=by
        show(vs++Array.replicate (fn.ntmps-vs.size) undef).getD i undef=undef
        rw[Array.getD_eq_getD_getElem?,Array.getElem?_append_right hil,Array.getElem?_replicate]
        split<;>rfl
       rw[this]
       exact VR.undef E
     ·show(vs++Array.replicate (fn.ntmps-vs.size) undef).size=fn.ntmps
      simp;omega
    have F:FxOk E X f none r.isSome:=by
     refine⟨rfl,.inl ⟨rfl,rfl⟩,?_⟩
     cases r with
     |none=>exact .inl ⟨rfl,rfl⟩
     |some m=>obtain⟨c0,cs0,h1⟩:=hcs;exact .inr ⟨rfl,rfl,c0,cs0,h1⟩
    unfold callEnd at ho
    cases hx:exec {c,call,fn:=f,n:=fn.ntmps,rd:=none} k bd t h [] r with
    |none=>rw[hx]at ho;cases ho
    |some q=>
     have GG:=(exec_ok (X:=X) (fn:=f) (rd:=none) (n:=fn.ntmps) C hcall k bd).1 [] E t h [] r a u w q S F hx
     rw[hx]at ho
     obtain⟨e1,t1,h1,d1,r1⟩:=q
     obtain⟨E1,a1,u1,w1,A,S1,hr1,st⟩:=GG
     simp only at ho
     rw[henter]
     have finish:∀ (fr:Frame) (m:RM),fr.tmps=a1.tmps→fr.defers=a1.defers→MR E1 m fr.mode→fr.fn=f→fr.kind=kindOf r →
       Steps P (St X a [.code bd] u w) (lone fr (cs u1) w1)→leave c call fn.results.toList t1 r1 d1 m h1=some (.mk e h' r') →
       ∃ E' w' u' fr x,Adv E h w E' h' w'∧RR E' r' u'∧r'.isSome=r.isSome∧VR E' e.val x ∧
       Steps P (lone (fat X.b a [.code bd]) (cs u) w) (lone fr (cs u') w')∧fr.fn=f∧fr.kind=kindOf r∧Fin P fr w' e x:=by
      intro fr m k1 k2 k3 k4 k5 k6 k7
      obtain⟨j1,E',w',fr',x,B,j2,j3,j4,j5,j6⟩:=leave_ok C hcall d1 m h1 k7 (fr:=fr) (cs:=cs u1) S1.w S1.g (k1 ▸ S1.t) (k2 ▸ S1.d) k3 (k4 ▸ hPf)
      refine⟨E',w',u1,fr',x,A.trans B,?_,?_,j2,?_,j4.trans k4,j5.trans k5,j6⟩
      ·rw[j1];exact S1.r.mono B.le
      ·rw[j1];exact hr1
      ·exact Steps.trans k6 j3
     cases e1 with
     |n=>exact finish {fat X.b a1 []with mode:=.returning} .ret rfl rfl .ret rfl rfl (Steps.trans st (.one (fstep_end rfl))) ho
     |ret=>obtain⟨k0,st⟩:=st;exact finish {fat X.b a1 (.code .ret::k0)with mode:=.returning} .ret rfl rfl .ret rfl rfl (Steps.trans st (.one (fstep_ret rfl))) ho
     |pan v=>obtain⟨k0,x,hv,st⟩:=st;exact finish {fat X.b a1 k0 with mode:=.panicking [{v:=x,recovered:=false}]} (.pan v false) rfl rfl (.pan hv) rfl rfl st ho
     |exit id=>cases ho
theorem setParams_ok{E n}:∀ (ps:List Tmp) (args:List AV) (vs:List Value) (t t':Tm) (tmps:Array Value),setParams n ps args t=some t'→LR E args vs→TR E t tmps→tmps.size=n →
  ps.length=vs.length∧TR E t' ((ps.zip vs).foldl (fun tmps (t,a)=>tmps.setIfInBounds t a) tmps)∧((ps.zip vs).foldl (fun tmps (t,a)=>tmps.setIfInBounds t a) tmps).size=n:=by
 intro ps
 induction ps with
 |nil=>
  intro args vs t t' tmps h l ht hn
  cases args with
  |nil=>
   simp only[setParams,Option.some.injEq]at h
   subst h
   have:vs=[]:=List.eq_nil_of_length_eq_zero (by rw[← l.1];rfl)
   subst this
   exact⟨rfl,ht,hn⟩
  |cons a as=>simp [setParams]at h
 |cons p ps ih=>
  intro args vs t t' tmps h l ht hn
  cases args with
  |nil=>simp [setParams]at h
  |cons a as=>
   cases vs with
   |nil=>have:=l.1;simp at this
   |cons v vs=>
    simp only[setParams,Tm.setK_eq]at h
    cases hb:Nat.blt p n with
    |false=>rw[hb]at h;cases h
    |true=>
     rw[hb]at h
     have hp:p<tmps.size:=by rw[hn];exact Nat.le_of_ble_eq_true hb
     have hv:VR E a v:=l.2 0 a v rfl rfl
     have l':LR E as vs:=⟨by simpa using l.1,fun i x y hx hy=>l.2 (i+1) x y (by simpa using hx) (by simpa using hy)⟩
     obtain⟨h1,h2,h3⟩:=ih as vs _ t' _ h l' (ht.set hp hv) (by simpa using hn)
     exact⟨by simpa using h1,h2,h3⟩
section
variable {b:Frame} {a:Act} {k:List Item} {cs:List Frame} {w w':World}
theorem fstep_begin{l:Nat} (hb:b.roundOf=some l) (h:(Instr.beginRound l).run P w=.ok () w') :
  step P (lone (fat b a (.beginRound::k)) cs w)=.next (lone (fat b a k) cs w'):=
 step_lone_go (by simp [stepG,stepG.exec,stepG.apply,fat,hb,h,Frame.finish])
theorem fstep_round_end{l:Nat} {v:Value} {c0:Frame} {cs0:List Frame} (hk:b.kind=.normal) (hb:b.roundOf=some l) (h:(Instr.endRound l none).run P w=.ok v w') :
  step P (lone (fat b a []) (c0::cs0) w)=.next (lone (c0.finish v) cs0 w'):=
 step_lone_go (by simp [stepG,stepG.exec,fat,hb,h,doReturn,hk])
theorem fstep_round_ret{l:Nat} {v:Value} {c0:Frame} {cs0:List Frame} (hk:b.kind=.normal) (hb:b.roundOf=some l) (h:(Instr.endRound l (some .ret)).run P w=.ok v w') :
  step P (lone (fat b a (.code .ret::k)) (c0::cs0) w)=.next (lone (c0.finish v) cs0 w'):=
 step_lone_go (by simp [stepG,stepG.exec,fat,hb,h,doReturn,hk])
theorem fstep_round_exit{l id:Nat} {v:Value} {c0:Frame} {cs0:List Frame} (hk:b.kind=.normal) (hb:b.roundOf=some l) (he:exitTo id k=none) (h:(Instr.endRound l (some (.exit id))).run P w=.ok v w') :
  step P (lone (fat b a (.code (.exit id)::k)) (c0::cs0) w)=.next (lone (c0.finish v) cs0 w'):=
 step_lone_go (by simp [stepG,stepG.exec,fat,hb,h,doReturn,hk,he])
theorem fstep_round_pan{fn:Func} {chain:List PanicEntry} {c0:Frame} {cs0:List Frame} (hf:P.funcs[b.fn]?=some fn) (hd:a.defers=[]) :
  step P (lone {fat b a k with mode:=.panicking chain} (c0::cs0) w)=.next (lone (c0.raise chain) cs0 w):=
 step_lone_go (by simp [stepG,unwind,Frame.catches,fat,hf,hd])
end
theorem run_endRound{w:World} {b:Nat} {L:Loop} (h:w.heap[b]?=some (.loop L)) (j:Option Code) :
  (Instr.endRound b j).run P w=.ok (.bool j.isNone) {w with heap:=w.heap.setIfInBounds b (.loop {L with state:=if j.isNone then .ready else .done,pending:=j})}:=by
 simp [Instr.endRound,run_getLoop h,run_setLoop h]
theorem run_beginRound{w:World} {b:Nat} {L:Loop} (h:w.heap[b]?=some (.loop L)) (hs:L.state=.ready) :
  (Instr.beginRound b).run P w=.ok () {w with heap:=w.heap.setIfInBounds b (.loop {L with state:=.busy})}:=by
 simp [Instr.beginRound,run_getLoop h,run_setLoop h,hs]
theorem DR.nil_inv{E ds} (h:DR E [] ds):ds=[]:=by cases h;rfl
theorem round_ok(C:CtxOk c P) (hcall:CallOk c P call) {k i args h r e h' r'} (ho:round c call k i args h r=some (.mk e h' r')):CallAt c P (.yield i args) h r e h' r':=by
 intro E w u W G hu b nb vs hb l
 unfold round at ho
 cases hh:hget h i with
 |loop l'=>
  rw[hh]at ho
  obtain⟨st0,p,fn,n,t,ps,asg,bd,df⟩:=l'
  cases r with
  |some m=>simp at ho
  |none=>
   simp only at ho
   cases hfn:c.fn fn with
   |none=>rw[hfn]at ho;cases ho
   |some fnc=>
    rw[hfn]at ho
    simp only at ho
    cases hsp:setParams n ps args t with
    |none=>rw[hsp]at ho;cases ho
    |some t1=>
     rw[hsp]at ho
     simp only at ho
     obtain⟨L,g1,g2,g3,g4,g5,g6,g7,g8,g9⟩:=loop_at W hb hh
     obtain⟨p1,p2,p3⟩:=setParams_ok ps args vs.toList t t1 L.tmps hsp l g6 g5
     have hfold:(L.params.zip vs).foldl (fun tmps (t,a)=>tmps.setIfInBounds t a) L.tmps=(ps.zip vs.toList).foldl (fun tmps (t,a)=>tmps.setIfInBounds t a) L.tmps:=by
      rw[← Array.foldl_toList,Array.toList_zip,g7]
     refine⟨L.fn,(L.params.zip vs).foldl (fun tmps (t,a)=>tmps.setIfInBounds t a) L.tmps,L.assign,L.body,?_,?_⟩
     ·unfold Instr.yield
      rw[Sem.run_bind,run_getLoop g1]
      simp only[Result.andThen_ok]
      have hsz:vs.size=L.params.size:=by
       have h1:L.params.toList.length=vs.toList.length:=by rw[g7];exact p1
       simpa using h1.symm
      rw[if_neg (by simp [hsz])]
      rfl
     ·intro c0 cs0
      rw[hfold]
      let X:Fx:=⟨{ (default:Frame)with fn:=L.fn,kind:=.normal,roundOf:=some b},fun _=>c0::cs0⟩
      let a:Act:={tmps:=(ps.zip vs.toList).foldl (fun tmps (t,a)=>tmps.setIfInBounds t a) L.tmps,defers:=[]}
      have hst:Frame.round b L.fn a.tmps L.assign L.body .normal=fat X.b a [.code L.assign,.beginRound,.code L.body]:=rfl
      show ∃ E' w' x,Adv E h w E' h' w'∧RR E' r' u∧r'.isSome=(none:Option RM).isSome∧VR E' e.val x∧Steps P (lone (Frame.round b L.fn a.tmps L.assign L.body .normal) (c0::cs0) w) (backM e c0 cs0 w' x)
      rw[hst,g8,g9.1]
      have S:SR c E n t1 h [] none a .run w:=⟨G,p2,p3,W,.nil,fun m hm=>by cases hm⟩
      have F:FxOk E X fn (some i) (none:Option RM).isSome:=⟨g4,.inr ⟨i,b,nb,rfl,hb,rfl⟩,.inl ⟨rfl,rfl⟩⟩
      cases hx:exec {c,call,fn,n,rd:=some i} k asg t1 h [] none with
      |none=>rw[hx]at ho;cases ho
      |some q=>
       have GG:=(exec_ok (X:=X) (fn:=fn) (rd:=some i) (n:=n) C hcall k asg).1 [.beginRound,.code bd] E t1 h [] none a .run w q S F hx
       rw[hx]at ho
       obtain⟨e1,t2,h2,d2,r2⟩:=q
       obtain⟨E2,a2,u2,w2,A,S2,hr2,st⟩:=GG
       have hr2':r2=none:=by cases r2<;>simp_all
       subst hr2'
       unfold roundBody at ho
       cases e1 with
       |n=>
        cases d2 with
        |cons x d2=>simp at ho
        |nil=>
         simp only at ho
         cases hh2:hget h2 i with
         |loop l2=>
          rw[hh2]at ho
          obtain⟨st2,p',fn',n',t',ps',asg',bd',df'⟩:=l2
          have hb2:=A.le.a _ _ _ hb
          obtain⟨L2,q1,q2,q3,q4,q5,q6,q7,q8,q9,q10⟩:=loop_at S2.w hb2 hh2
          cases st2 with
          |ready=>
           simp only[hsetK_eq]at ho
           have A2:=loop_set S2.w hb2 hh2 .busy p' q1 q4 q5 q6 q7 q8 q9 q10
           have hbeg:=run_beginRound (P:=P) q1 q2
           have e1:({L2 with state:=.busy}:Loop)={L2 with state:=.busy,pending:=p'}:=by rw[← q3]
           rw[e1]at hbeg
           have st2':Steps P (St X a [.code asg,.beginRound,.code bd] .run w) (St X a2 [.code bd] u2 _):=Steps.trans st (.one (fstep_begin (b:=X.b) (l:=b) rfl hbeg))
           have S3:=S2.adv A2
           have F3:FxOk E2 X fn (some i) (none:Option RM).isSome:=F.mono A.le
           unfold roundEnd at ho
           cases hx2:exec {c,call,fn,n,rd:=some i} k bd t2 (hset h2 i (.loop (.mk .busy p' fn' n' t' ps' asg' bd' df'))) [] none with
           |none=>rw[hx2]at ho;cases ho
           |some q=>
            have GG2:=(exec_ok (X:=X) (fn:=fn) (rd:=some i) (n:=n) C hcall k bd).1 [] E2 t2 _ [] none a2 u2 _ q S3 F3 hx2
            rw[hx2]at ho
            obtain⟨e3,t3,h3,d3,r3⟩:=q
            obtain⟨E3,a3,u3,w3,A3,S4,hr3,st3⟩:=GG2
            have AA:=(A.trans A2).trans A3
            cases d3 with
            |cons x d3=>simp at ho
            |nil=>
             simp only at ho
             have hb3:=A3.le.a _ _ _ hb2
             have ending:∀ (j:Option Code) (m1:Machine),(∀ v w',(Instr.endRound b j).run P w3=.ok v w'→step P m1=.next (lone (c0.finish v) cs0 w')) →
               Steps P (St X a [.code asg,.beginRound,.code bd] .run w) m1 →
               (∃ st5 p5 fn5 n5 t5 ps5 a5 b5 df5, hget h3 i = .loop (.mk st5 p5 fn5 n5 t5 ps5 a5 b5 df5) ∧
                some (CR.mk (.ret (.p (.bool j.isNone))) (hset h3 i (.loop (.mk (if j.isNone then .ready else .done) j fn5 n5 t5 ps5 a5 b5 df5))) none)=some (.mk e h' r')) →
               ∃ E' w' x,Adv E h w E' h' w'∧RR E' r' u∧r'.isSome=(none:Option RM).isSome∧VR E' e.val x∧Steps P (lone (fat X.b a [.code asg,.beginRound,.code bd]) (c0::cs0) w) (backM e c0 cs0 w' x):=by
              intro j m1 k1 k2 ⟨st5,p5,fn5,n5,t5,ps5,a5,b5,df5,k3,k4⟩
              simp only[Option.some.injEq,CR.mk.injEq]at k4
              obtain⟨rfl,rfl,rfl⟩:=k4
              obtain⟨L5,z1,z2,z3,z4,z5,z6,z7,z8,z9,z10⟩:=loop_at S4.w hb3 k3
              have A5:=loop_set S4.w hb3 k3 (if j.isNone then .ready else .done) j z1 z4 z5 z6 z7 z8 z9 z10
              refine⟨E3,_,.bool j.isNone,AA.trans A5,fun m hm=>(by cases hm),rfl,.p (.bool _),Steps.trans k2 (.one (k1 _ _ (run_endRound z1 j)))⟩
             cases e3 with
             |pan v=>
              simp only[Option.some.injEq,CR.mk.injEq]at ho
              obtain⟨rfl,rfl,rfl⟩:=ho
              obtain⟨k0,x,hv,st4⟩:=st3
              refine⟨E3,w3,x,AA,fun m hm=>(by cases hm),rfl,hv,Steps.trans st2' (Steps.trans st4 (.one ?_))⟩
              exact fstep_round_pan (fn:=fnc) (by show P.funcs[L.fn]?=_;rw[g4];exact C.fn _ _ hfn) S4.d.nil_inv
             |n=>
              simp only at ho
              cases hh3:hget h3 i with
              |loop l5=>
               rw[hh3]at ho
               obtain⟨st5,p5,fn5,n5,t5,ps5,a5,b5,df5⟩:=l5
               exact ending none _ (fun v w' hr=>fstep_round_end (b:=X.b) (l:=b) rfl rfl hr) (Steps.trans st2' st3) ⟨_,_,_,_,_,_,_,_,_,hh3,by simpa using ho⟩
              |_=>rw[hh3]at ho;cases ho
             |ret=>
              simp only at ho
              obtain⟨k0,st4⟩:=st3
              cases hh3:hget h3 i with
              |loop l5=>
               rw[hh3]at ho
               obtain⟨st5,p5,fn5,n5,t5,ps5,a5,b5,df5⟩:=l5
               exact ending (some .ret) _ (fun v w' hr=>fstep_round_ret (b:=X.b) (l:=b) rfl rfl hr) (Steps.trans st2' st4) ⟨_,_,_,_,_,_,_,_,_,hh3,by simpa using ho⟩
              |_=>rw[hh3]at ho;cases ho
             |exit id=>
              simp only at ho
              obtain⟨k0,hk0,st4⟩:=st3
              cases hh3:hget h3 i with
              |loop l5=>
               rw[hh3]at ho
               obtain⟨st5,p5,fn5,n5,t5,ps5,a5,b5,df5⟩:=l5
               exact ending (some (.exit id)) _ (fun v w' hr=>fstep_round_exit (b:=X.b) (l:=b) rfl rfl (by rw[hk0];rfl) hr) (Steps.trans st2' st4) ⟨_,_,_,_,_,_,_,_,_,hh3,by simpa using ho⟩
              |_=>rw[hh3]at ho;cases ho
          |_=>simp at ho
         |_=>rw[hh2]at ho;cases ho
       |_=>simp at ho
 |_=>rw[hh]at ho;simp at ho
def OrcOk(c:Ctx) (P:Program) (o:Orc):Prop:=
 ∀ f args h e h',o f args h=some (e,h')→CallAt c P (.fn f args) h none e h' none
theorem callN_ok(C:CtxOk c P) {o:Orc} (hO:OrcOk c P o):∀ k,CallOk c P (callN c o k):=by
 intro k
 induction k with
 |zero=>intro cl h r e h' r' hc;cases hc
 |succ k ih=>
  intro cl h r e h' r' hc
  have hc':callStep c o k (callN c o k) cl h r=some (.mk e h' r'):=hc
  cases cl with
  |yield i args=>exact round_ok C ih hc'
  |fn f args=>
   have hc2:callFn c o k (callN c o k) f args h r=some (.mk e h' r'):=hc'
   unfold callFn at hc2
   cases r with
   |none=>
    simp only at hc2
    cases hg:o f args h with
    |some eh=>
     obtain⟨e1,h1⟩:=eh
     rw[hg]at hc2
     cases hc2
     exact hO f args h _ _ hg
    |none=>
     rw[hg]at hc2
     simp only at hc2
     cases hfn:c.fn f with
     |none=>rw[hfn]at hc2;cases hc2
     |some fn=>
      rw[hfn]at hc2
      exact callBody_ok C ih hfn hc2
   |some m=>
    simp only at hc2
    cases hfn:c.fn f with
    |none=>rw[hfn]at hc2;cases hc2
    |some fn=>
     rw[hfn]at hc2
     exact callBody_ok C ih hfn hc2
theorem calls_of{f args h e h'} (H:CallAt c P (.fn f args) h none e h' none) {E w} (W:WR E h w) (G:GR c E) {vs:Array Value} (l:LR E args vs.toList) :
  Calls P f vs w fun
   |.returned x,w'=>∃ E',Adv E h w E' h' w'∧∃ v,e=.ret v∧VR E' v x
   |.panicked chain,w'=>∃ E',Adv E h w E' h' w'∧∃ v x,e=.pan v∧VR E' v x∧chain=[{v:=x,recovered:=false}]
   |.outgrown,_=>False:=by
 intro cs
 obtain⟨h1,h2⟩:=H E w .run W G (fun m hm=>by cases hm) vs l
 obtain⟨E',w',u',fr,x,A,k1,k2,k3,k4,k5,k6,k7⟩:=h2 (fun _=>cs) ⟨cs,rfl⟩
 cases e with
 |ret v=>
  obtain⟨g1,g2,fn,g3,g4⟩:=k7
  exact⟨.returned x,w',fr,⟨E',A,v,rfl,k3⟩,k4,k5,g1,g2,k6,fn,g3,g4⟩
 |pan v=>exact⟨.panicked [{v:=x,recovered:=false}],w',fr,⟨E',A,v,x,rfl,k3,rfl⟩,k4,k5,k7⟩
end
end Go.Ai

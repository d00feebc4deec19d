/- What is proved: frames, calls upon the part of memory that is reached, calls back. Conditions: as before. -/
import Derived.Test.YtepjcfcfpjhpgaaGreatDoorPA05
set_option linter.all false
namespace Go.Ai
open Go Go.RowKit
section
variable {c:Ctx} {P:Program} {E:Rn} {h:List Ob} {w:World}
theorem builtin_run{a:Act} {o:Oper} {cl:Call} {b:Builtin} (hop:o.op=.call cl) (hc:cl.callee=.builtin b) :
  execOp a.eval o=builtin b cl.argTypes o.type (cl.args.map fun | .const _=>true|_=>false) (cl.args.map a.eval):=by
 unfold execOp
 rw[hop]
 simp only[resolve,hc]
 rfl
theorem builtinD_ok(C:CtxOk c P) (W:WR E h w) {t} {a:Act} (hg:GR c E) (ht:TR E t a.tmps) (b:Builtin) (args:List Operand) (tys:List TypeId) (ty:TypeId) (cs:Array Bool) :
  SemN P E h w (builtinD b args tys c t h) (builtin b tys.toArray ty cs (args.map a.eval).toArray):=by
 unfold builtinD
 split
 ·rename_i x ty'
  show SemN P E h w (oLen ty' x c t h) _
  unfold oLen
  split
  ·rename_i v hl
   obtain⟨u,h1,h2⟩:=lenP_ok (w:=w) (ty:=ty) C (ev_ok hg ht x) hl
   exact .ofV (.w W h1 h2)
  ·exact .ofV (.ofO W fun v hl=>lenM_ok (ty:=ty) C W (ev_ok hg ht x) hl)
 ·rename_i x ty'
  show SemN P E h w (oCap ty' x c t h) _
  unfold oCap
  split
  ·rename_i e hu
   split
   ·rename_i p hp
    split
    ·have hv:=ev_ok hg ht x
     rw[hp]at hv
     have hp':=hv.p_inv
     have hx:a.eval x=.slice none 0 0:=by generalize a.eval x=u at hp';cases hp';rfl
     refine .ofV (.w W (v:=.int .i64 0) ?_ (.p (.int .i64 0)))
     simp [Builtin.cap_,hx,run_underlying C hu,goInt]
    ·exact .no
   ·exact .no
  ·exact .no
 ·rename_i s x st xt
  show SemN P E h w (oAppend st xt s x c t h) _
  unfold oAppend
  split
  ·rename_i el e hs hx
   exact .ofV (append_ok C W hs (.inl ⟨e,hx⟩) (ev_ok hg ht s) (ev_ok hg ht x))
  ·rename_i el hs hx
   exact .ofV (append_ok C W hs (.inr hx) (ev_ok hg ht s) (ev_ok hg ht x))
  ·exact .no
 ·rename_i d x dt xt
  show SemN P E h w (oCopy dt d x c t h) _
  unfold oCopy
  split
  ·rename_i e hd
   split
   ·rename_i sz hs
    exact .ofV (copy_ok C W hd hs (ev_ok hg ht d) (ev_ok hg ht x))
   ·exact .no
  ·exact .no
 ·rename_i x ty'
  show SemN P E h w (oClear ty' x c t h) _
  unfold oClear
  split
  ·rename_i el hd
   exact .ofV (clear_ok C W hd (ev_ok hg ht x))
  ·exact .no
 ·rename_i tys x
  exact .ofV (.ofO W fun v hl=>sdata_ok W (ev_ok hg ht x) hl)
 ·rename_i x n pt xt
  show SemN P E h w (oUString pt x n c t h) _
  unfold oUString
  split
  ·rename_i u hp
   exact .ofV (ustring_ok C W hp (ev_ok hg ht x) (ev_ok hg ht n))
  ·exact .no
 ·rename_i tt x y
  exact .ofV (mm_ok (P:=P) (mx:=true) (ats:=tys.toArray) (ty:=ty) W (ev_ok hg ht x) (ev_ok hg ht y))
 ·rename_i tt x y
  exact .ofV (mm_ok (P:=P) (mx:=false) (ats:=tys.toArray) (ty:=ty) W (ev_ok hg ht x) (ev_ok hg ht y))
 ·exact .no
theorem opD_ok(C:CtxOk c P) (W:WR E h w) {t} {a:Act} (hg:GR c E) (ht:TR E t a.tmps) (o:Oper):SemN P E h w (opD o.op c t h) (execOp a.eval o):=by
 have ev:=fun x=>ev_ok (c:=c) hg ht x
 cases hop:o.op with
 |call cl=>
  show SemN P E h w (callD cl c t h) _
  unfold callD
  cases hc:cl.callee with
  |builtin b=>
   rw[builtin_run hop hc]
   have:=builtinD_ok C W hg ht b cl.args.toList cl.argTypes.toList o.type (cl.args.map fun | .const _=>true|_=>false)
   rw[List.map_toArray.symm]at this
   simpa only[Array.toArray_toList]using this
  |_=>exact .no
 |move x=>unfold execOp;rw[hop];exact fun _=>⟨_,w,rfl,.inl ⟨_,rfl,E,Adv.refl W,ev x⟩⟩
 |assign x=>unfold execOp;rw[hop];exact fun _=>⟨_,w,rfl,.inl ⟨_,rfl,E,Adv.refl W,ev x⟩⟩
 |pick k x y=>
  unfold execOp;rw[hop]
  show SemN P E h w (oPick k x y c t h) _
  unfold oPick
  have hk:=ev k
  split
  ·rename_i p hp
   rw[hp]at hk
   split
   ·rename_i z
    have hk':=hk.p_inv
    intro _
    have hz:a.eval k=.bool z:=by generalize a.eval k=u at hk';cases hk';rfl
    refine⟨.value (if z then a.eval x else a.eval y),w,by simp [hz,asBool],.inl ⟨_,rfl,E,Adv.refl W,?_⟩⟩
    cases z
    ·exact ev y
    ·exact ev x
   ·exact .no
  ·exact .no
 |alloc el=>
  unfold execOp;rw[hop]
  show SemN P E h w (oAlloc el c t h) _
  unfold oAlloc
  split
  ·rename_i z hz
   simp only[forceN_eq,lnf_eq]
   exact .ofV (alloc_ok C W hz)
  ·exact .no
 |box el x=>
  unfold execOp;rw[hop]
  show SemN P E h w (oBox el x c t h) _
  unfold oBox
  split
  ·rename_i cs hc
   simp only[forceN_eq,lnf_eq]
   exact .ofV (box_ok W (ev x) hc)
  ·exact .no
 |build ty parts=>
  unfold execOp;rw[hop]
  refine .ofV (.ofO W fun v hl=>build_ok C ?_ hl)
  have:=evp_ok (c:=c) hg ht parts.toList
  simpa using this
 |buildSlice ty n parts=>
  unfold execOp;rw[hop]
  refine .ofV (buildSlice_ok C W ?_)
  have:=evp_ok (c:=c) hg ht parts.toList
  simpa using this
 |load ty x=>unfold execOp;rw[hop];exact .ofV (.ofO W fun v hl=>load_ok C W (ev x) hl)
 |store ty x y=>unfold execOp;rw[hop];exact .ofU (store_ok C W (ev x) (ev y))
 |nilCheck x=>
  unfold execOp;rw[hop]
  show SemN P E h w (oNilCheck x c t h) _
  unfold oNilCheck
  split
  ·rename_i hb
   obtain⟨n1,n2,n3,n4⟩:=isNil_false (ev x) hb
   intro _
   refine⟨.value (a.eval x),w,?_,.inl ⟨_,rfl,E,Adv.refl W,ev x⟩⟩
   dsimp only
   split
   ·rename_i hh;exact absurd hh n1
   ·rename_i hh;exact absurd hh n2
   ·rename_i hh;exact absurd hh n3
   ·rename_i m first cap hh;exact absurd hh (n4 m first cap)
   ·rfl
  ·exact .no
 |binOp op ty x y k=>unfold execOp;rw[hop];exact .ofV (bin3_ok C W (ev x) (ev y))
 |unOp op ty x=>unfold execOp;rw[hop];exact .ofV (un1_ok W (ev x))
 |convert s d x=>unfold execOp;rw[hop];exact .ofV (conv3_ok C W (ev x))
 |makeInterface ty x=>unfold execOp;rw[hop];exact .ofV (.ofO W fun v hl=>mkFace_ok C (ev x) hl)
 |makeFunc fn first cap=>
  unfold execOp;rw[hop]
  cases fn with
  |func f=>
   show SemN P E h w (oMakeFunc (.func f) first cap c t h) (do pure (.value (← Instr.makeFunc (.func f) (first.map a.eval) (cap.map a.eval))))
   have general:SemV P E h w (.w (.func f (evs c t first.toList) (evs c t cap.toList))) (Instr.makeFunc (.func f) (first.map a.eval) (cap.map a.eval)):=by
    have l1:=evs_ok (c:=c) hg ht first.toList
    have l2:=evs_ok (c:=c) hg ht cap.toList
    refine .w W (v:=.func (.func f) (first.map a.eval) (cap.map a.eval)) rfl (.func (by simpa using l1.1) (by simpa using l2.1) ?_ ?_)
    ·intro i x v hx hv;exact l1.2 i x v hx (by simpa using hv)
    ·intro i x v hx hv;exact l2.2 i x v hx (by simpa using hv)
   unfold oMakeFunc
   dsimp only
   cases h1:first.toList with
   |nil=>
    cases h2:cap.toList with
    |nil=>
     refine .ofV (.w W (v:=.func (.func f) #[] #[]) ?_ (.p (.fn f)))
     have e1:first = #[]:=Array.toList_eq_nil_iff.1 h1
     have e2:cap = #[]:=Array.toList_eq_nil_iff.1 h2
     rw[e1,e2];simp [Instr.makeFunc]
    |cons y l=>rw[h1,h2]at general;exact .ofV general
   |cons y l=>rw[h1]at general;exact .ofV general
  |_=>exact .no
 |makeMap ty r=>
  unfold execOp;rw[hop]
  show SemN P E h w (oMakeMap r c t h) _
  unfold oMakeMap
  cases r with
  |none=>simp only[forceN_eq];exact .ofV (makeMap_ok W)
  |some r=>exact .no
 |makeSlice ty l m=>unfold execOp;rw[hop];exact .ofV (makeSlice_ok C W (ev l) (ev m))
 |slice ty x lo hi mx=>
  unfold execOp;rw[hop]
  show SemN P E h w (oSlice ty x lo hi mx c t h) _
  unfold oSlice
  cases mx with
  |none=>
   dsimp only
   split
   ·rename_i v hs
    obtain⟨u,h1,h2⟩:=slice2_ok C W 0 (.inl rfl) (ev x) (evo_ok hg ht lo) (evo_ok hg ht hi) hs
    exact .ofV (.w W h1 h2)
   ·exact .ofV (.ofO W fun v hs=>slice2_ok C W _ (.inr rfl) (ev x) (evo_ok hg ht lo) (evo_ok hg ht hi) hs)
  |some m=>exact .ofV (.ofO W fun v hs=>slice3_ok C W (ev x) (evo_ok hg ht lo) (evo_ok hg ht hi) (ev m) hs)
 |fieldAddr s x f=>unfold execOp;rw[hop];exact .ofV (.ofO W fun v hl=>fieldAddr_ok C W (ev x) hl)
 |field s x f=>unfold execOp;rw[hop];exact .ofV (.ofO W fun v hl=>field_ok C W (ev x) hl)
 |indexAddr ty x ix=>unfold execOp;rw[hop];exact .ofV (.ofO W fun v hl=>indexAddr_ok C W (ev x) (ev ix) hl)
 |index ty x ix=>unfold execOp;rw[hop];exact .ofV (.ofO W fun v hl=>index_ok C W (ev x) (ev ix) hl)
 |lookup ty x k ok=>unfold execOp;rw[hop];exact .ofV (.ofO W fun v hl=>lookup_ok C W (ev x) (ev k) hl)
 |mapUpdate ty m k v=>unfold execOp;rw[hop];exact .ofU (mapUpdate_ok C W (ev m) (ev k) (ev v))
 |range ty x=>unfold execOp;rw[hop];exact .ofV (rangeV_ok C W (ev x))
 |next x s=>
  unfold execOp;rw[hop]
  cases s with
  |true=>exact .no
  |false=>exact .ofV (nextV_ok W (ev x))
 |entry x=>unfold execOp;rw[hop];exact .ofV (entryV_ok W (ev x))
 |typeAssert x xt ty ok=>unfold execOp;rw[hop];exact .ofV (.ofO W fun v hl=>typeAssert_ok C (ev x) hl)
 |extract x i=>
  unfold execOp;rw[hop]
  show SemN P E h w (oExtract x i c t h) _
  unfold oExtract
  have hx:=ev x
  split
  ·rename_i vs hp
   rw[hp]at hx
   refine .ofV (.ofO W fun v hl=>?_)
   rw[aget_eq]at hl
   generalize a.eval x=u at hx
   cases hx with
   | @tup _ us hl' hp'=>
    have hlt:i<us.size:=by rw[← hl'];exact(List.getElem?_eq_some_iff.1 hl).1
    exact⟨us[i],by simp [Instr.extract,hlt],hp' i v _ hl (by simp [hlt])⟩
  ·exact .no
 |_=>exact .no
end
def fat(b:Frame) (a:Act) (todo:List Item):Frame:=
 {fn:=b.fn,tmps:=a.tmps,todo,defers:=a.defers,mode:=.run,kind:=b.kind,roundOf:=b.roundOf}
theorem fat_eval(b:Frame) (a:Act) (todo:List Item):(fat b a todo).eval=a.eval:=by
 funext x;cases x<;>rfl
theorem fat_finish(b:Frame) (a:Act) (ops:Array Oper) (i:Nat) (rest:List Nat) (k:List Item) (v:Value) :
  (fat b a (.inRegion ops (i::rest)::k)).finish v=fat b (a.put ((ops[i]?).bind (·.dst)) v) (.inRegion ops rest::k):=by
 cases h:(ops[i]?).bind (·.dst)<;>simp [Frame.finish,fat,Act.put,h]
section
variable {P:Program} {b:Frame} {a:Act} {k:List Item} {cs:List Frame} {w:World} {ops:Array Oper}
theorem fstep_skip:step P (lone (fat b a (.code .skip::k)) cs w)=.next (lone (fat b a k) cs w):=
 step_lone_go (by simp [stepG,stepG.exec,fat])
theorem fstep_label{l:Nat}:step P (lone (fat b a (.code (.label l)::k)) cs w)=.next (lone (fat b a k) cs w):=
 step_lone_go (by simp [stepG,stepG.exec,fat])
theorem fstep_inBlock{id:Nat}:step P (lone (fat b a (.inBlock id::k)) cs w)=.next (lone (fat b a k) cs w):=
 step_lone_go (by simp [stepG,stepG.exec,fat])
theorem fstep_inScope{c:Code}:step P (lone (fat b a (.inScope c::k)) cs w)=.next (lone (fat b a k) cs w):=
 step_lone_go (by simp [stepG,stepG.exec,fat])
theorem fstep_seq{x y:Code} :
  step P (lone (fat b a (.code (.seq x y)::k)) cs w)=.next (lone (fat b a (.code x :: .code y::k)) cs w):=
 step_lone_go (by simp [stepG,stepG.exec,fat])
theorem fstep_cond{c:Operand} {x y:Code} {t:Bool} (h:a.eval c=.bool t) :
  step P (lone (fat b a (.code (.cond c x y)::k)) cs w)=.next (lone (fat b a (.code (if t then x else y)::k)) cs w):=
 step_lone_go (by
  have:=congrFun (fat_eval b a (.code (.cond c x y)::k)) c
  simp only[fat]at this
  simp [stepG,stepG.exec,fat,this,h])
theorem fstep_block{id:Nat} {c:Code} :
  step P (lone (fat b a (.code (.block id c)::k)) cs w)=.next (lone (fat b a (.code c :: .inBlock id::k)) cs w):=
 step_lone_go (by simp [stepG,stepG.exec,fat])
theorem fstep_loop{c:Code} :
  step P (lone (fat b a (.code (.loop c)::k)) cs w)=.next (lone (fat b a (.code c :: .inLoop c::k)) cs w):=
 step_lone_go (by simp [stepG,stepG.exec,fat])
theorem fstep_inLoop{c:Code} :
  step P (lone (fat b a (.inLoop c::k)) cs w)=.next (lone (fat b a (.code c :: .inLoop c::k)) cs w):=
 step_lone_go (by simp [stepG,stepG.exec,fat])
theorem fstep_scope{c:Code} :
  step P (lone (fat b a (.code (.scope c)::k)) cs w)=.next (lone (fat b a (.code c :: .inScope c::k)) cs w):=
 step_lone_go (by simp [stepG,stepG.exec,fat])
theorem fstep_exit{id:Nat} {k':List Item} (h:exitTo id k=some k') :
  step P (lone (fat b a (.code (.exit id)::k)) cs w)=.next (lone (fat b a k') cs w):=
 step_lone_go (by simp [stepG,stepG.exec,fat,h])
theorem fstep_region{id:Nat} :
  step P (lone (fat b a (.code (.region id ops false)::k)) cs w)=.next (lone (fat b a (.inRegion ops (List.range ops.size)::k)) cs w):=
 step_lone_go (by simp [stepG,stepG.exec,fat])
theorem fstep_region_draw{id:Nat} :
  step P (lone (fat b a (.code (.region id ops true)::k)) cs w) =
   .next (lone (fat b a (.inRegion ops (Region.schedule (P.follows .mixedOrders) ops (w.tape w.drawn (.order b.fn id)))::k)) cs {w with drawn:=w.drawn+1}):=
 step_lone_go (by simp [stepG,stepG.exec,fat,choose,Sem.run,Question.forced,Question.cut])
theorem fstep_region_end:step P (lone (fat b a (.inRegion ops []::k)) cs w)=.next (lone (fat b a k) cs w):=
 step_lone_go (by simp [stepG,stepG.exec,fat])
theorem fstep_op_skip{i:Nat} {rest:List Nat} (h:((ops[i]?).map (Region.wanted · (yielded ops a.tmps))).getD false=false) :
  step P (lone (fat b a (.inRegion ops (i::rest)::k)) cs w) =
   .next (lone (fat b (a.put ((ops[i]?).bind (·.dst)) undef) (.inRegion ops rest::k)) cs w):=by
 rw[← fat_finish]
 exact step_lone_go (by
  have h':=h
  simp only[fat]at *
  simp [stepG,stepG.exec,h'])
theorem fstepG_op{i:Nat} {rest:List Nat} {o:Oper} (ho:ops[i]?=some o) (hw:Region.wanted o (yielded ops a.tmps)=true)
  (hd:b.roundOf=none∨∀ c,o.op ≠ .defer c) :
  stepG P true {frame:=fat b a (.inRegion ops (i::rest)::k),callers:=cs,status:=.running,dying:=none} w =
   stepG.apply P true (fat b a (.inRegion ops (i::rest)::k)) cs none (execOp a.eval o) w:=by
 have he:=fat_eval b a (.inRegion ops (i::rest)::k)
 simp only[fat]at he
 rcases hd with hd|hd
 ·rw[hd]at he
  simp [stepG,stepG.exec,stepG.oper,Frame.oper?,fat,ho,hw,he,hd]
 ·simp only[stepG,stepG.exec,stepG.oper,Frame.oper?,fat,ho,hw,he,Option.map_some,Option.getD_some,if_true]
  split
  ·rename_i l c h1 h2;exact absurd h2 (hd c)
  ·rfl
end
structure Fx where
 b:Frame
 cs:FrameMode→List Frame
def St(X:Fx) (a:Act) (k:List Item) (u:FrameMode) (w:World):Machine:=lone (fat X.b a k) (X.cs u) w
inductive MR (E:Rn):RM→FrameMode→Prop
 |ret:MR E .ret .returning
 |pan {v x b} (h:VR E v x):MR E (.pan v b) (.panicking [{v:=x,recovered:=b}])
def RR(E:Rn) (r:Option RM) (u:FrameMode):Prop:=∀ m,r=some m→MR E m u
theorem MR.mono{E E':Rn} (h:E.le E') {m u} (hm:MR E m u):MR E' m u:=by
 cases hm with
 |ret=>exact .ret
 |pan hv=>exact .pan (hv.mono h)
theorem RR.mono{E E':Rn} (h:E.le E') {r u} (hr:RR E r u):RR E' r u:=fun m hm=>(hr m hm).mono h
inductive DR (E:Rn):List AD→List Deferred→Prop
 |nil:DR E [] []
 |cons {d x l xs} (h:ADR E d x) (hl:DR E l xs):DR E (d::l) (x::xs)
theorem DR.mono{E E':Rn} (h:E.le E') {l xs} (hl:DR E l xs):DR E' l xs:=by
 induction hl with
 |nil=>exact .nil
 |cons hd _ ih=>exact .cons (hd.mono h) ih
structure SR (c:Ctx) (E:Rn) (n:Nat) (t:Tm) (h:List Ob) (d:List AD) (r:Option RM) (a:Act) (u:FrameMode) (w:World):Prop where
 g:GR c E
 t:TR E t a.tmps
 n:a.tmps.size=n
 w:WR E h w
 d:DR E d a.defers
 r:RR E r u
structure FxOk (E:Rn) (X:Fx) (fn:FuncId) (rd:Option Nat) (r:Bool):Prop where
 fn:X.b.fn=fn
 rd:(rd=none∧X.b.roundOf=none)∨∃ i b n,rd=some i∧E.a i 0=some (b,n)∧X.b.roundOf=some b
 kind:(r=false∧X.b.kind=.normal)∨(r=true∧X.b.kind=.deferred∧∃ (c0:Frame) (cs0:List Frame),X.cs=fun u=>{c0 with mode:=u}::cs0)
theorem FxOk.mono{E E':Rn} (h:E.le E') {X fn rd r} (hx:FxOk E X fn rd r):FxOk E' X fn rd r:=
 ⟨hx.fn,hx.rd.imp id fun⟨i,b,n,h1,h2,h3⟩=>⟨i,b,n,h1,h.a _ _ _ h2,h3⟩,hx.kind⟩
def Ended(P:Program) (X:Fx) (m:Machine) (k:List Item) (E:Rn) (e:AEx) (a:Act) (u:FrameMode) (w:World):Prop:=
 match e with
 |.n=>Steps P m (St X a k u w)
 |.exit id=>∃ k0,exitTo id k0=exitTo id k∧Steps P m (St X a (.code (.exit id)::k0) u w)
 |.ret=>∃ k0,Steps P m (St X a (.code .ret::k0) u w)
 |.pan v=>∃ k0 x,VR E v x∧Steps P m (lone {fat X.b a k0 with mode:=.panicking [{v:=x,recovered:=false}]} (X.cs u) w)
theorem Ended.of_steps{P X m m1 k E e a u w} (hs:Steps P m m1) (h:Ended P X m1 k E e a u w):Ended P X m k E e a u w:=by
 cases e with
 |n=>exact hs.trans h
 |exit id=>obtain⟨k0,h1,h2⟩:=h;exact⟨k0,h1,hs.trans h2⟩
 |ret=>obtain⟨k0,h2⟩:=h;exact⟨k0,hs.trans h2⟩
 |pan v=>obtain⟨k0,x,h1,h2⟩:=h;exact⟨k0,x,h1,hs.trans h2⟩
theorem Ended.pass{P X m k k' E e a u w} (he:e ≠ .n) (hk:∀ id,exitTo id k'=exitTo id k) (h:Ended P X m k' E e a u w):Ended P X m k E e a u w:=by
 cases e with
 |n=>exact absurd rfl he
 |exit id=>obtain⟨k0,h1,h2⟩:=h;exact⟨k0,h1.trans (hk id),h2⟩
 |ret=>exact h
 |pan v=>exact h
def Good(c:Ctx) (P:Program) (X:Fx) (m:Machine) (k:List Item) (E:Rn) (h:List Ob) (w:World) (n:Nat) (r:Option RM):Out→Prop
 |.mk e t' h' d' r'=>∃ E' a' u' w',Adv E h w E' h' w'∧SR c E' n t' h' d' r' a' u' w'∧r'.isSome=r.isSome∧Ended P X m k E' e a' u' w'
theorem Good.step{c P X m m1 k E h w E1 h1 w1 n r r1 o} (hs:Steps P m m1) (A:Adv E h w E1 h1 w1) (hr:r1.isSome=r.isSome)
  (G:Good c P X m1 k E1 h1 w1 n r1 o):Good c P X m k E h w n r o:=by
 obtain⟨e,t',h',d',r'⟩:=o
 obtain⟨E',a',u',w',G1,G2,G3,G4⟩:=G
 exact⟨E',a',u',w',A.trans G1,G2,G3.trans hr,G4.of_steps hs⟩
def KOk(c:Ctx) (P:Program) (X:Fx) (fn:FuncId) (rd:Option Nat) (n:Nat) (todo k:List Item) (K:K):Prop:=
 ∀ E t h d r a u w o,SR c E n t h d r a u w→FxOk E X fn rd r.isSome→K t h d r=some o→Good c P X (St X a todo u w) k E h w n r o
theorem KOk.steps{c P X fn rd n todo todo1 k K} (hs:∀ a u w,Steps P (St X a todo u w) (St X a todo1 u w)) (hk:KOk c P X fn rd n todo1 k K):KOk c P X fn rd n todo k K:=
 fun E t h d r a u w o S F ho=>(hk E t h d r a u w o S F ho).step (hs a u w) (Adv.refl S.w) rfl
theorem Tm.get_zero(v:AV) (l r:Tm):(Tm.nd v l r).get 0=v:=rfl
theorem Tm.get_succ(v:AV) (l r:Tm) (m:Nat):(Tm.nd v l r).get (m+1)=cond (Nat.beq (Nat.mod m 2) 0) (l.get (Nat.div m 2)) (r.get (Nat.div m 2)):=rfl
theorem Tm.get_lf(i:Nat):Tm.lf.get i=undefA:=rfl
theorem Tm.one_zero(k:Nat) (v:AV):Tm.one (k+1) 0 v=.nd v .lf .lf:=rfl
theorem Tm.one_succ(k m:Nat) (v:AV):Tm.one (k+1) (m+1) v=cond (Nat.beq (Nat.mod m 2) 0) (.nd undefA (Tm.one k (Nat.div m 2) v) .lf) (.nd undefA .lf (Tm.one k (Nat.div m 2) v)):=rfl
theorem Tm.set_lf(n:Nat) (v:AV):Tm.lf.set n v=Tm.one (n+1) n v:=rfl
theorem Tm.set_zero(x:AV) (l r:Tm) (v:AV):(Tm.nd x l r).set 0 v=.nd v l r:=rfl
theorem Tm.set_succ(x:AV) (l r:Tm) (m:Nat) (v:AV):(Tm.nd x l r).set (m+1) v=cond (Nat.beq (Nat.mod m 2) 0) (.nd x (l.set (Nat.div m 2) v) r) (.nd x l (r.set (Nat.div m 2) v)):=rfl
theorem even_cases(m:Nat):(Nat.beq (Nat.mod m 2) 0=true∧m=2*Nat.div m 2)∨(Nat.beq (Nat.mod m 2) 0=false∧m=2*Nat.div m 2+1):=by
 have e1:Nat.mod m 2=m % 2:=rfl
 have e2:Nat.div m 2=m / 2:=rfl
 rw[e1,e2]
 by_cases h:m % 2=0
 ·exact .inl ⟨by simp [h],by omega⟩
 ·have h1:m % 2=1:=by omega
  exact .inr ⟨by rw[h1];rfl,by omega⟩
theorem Tm.get_one(k:Nat):∀ (n:Nat) (v:AV),n<k→∀ i,(Tm.one k n v).get i=if i=n then v else undefA:=by
 induction k with
 |zero=>intro n v h;omega
 |succ k ih=>
  intro n v hn i
  cases n with
  |zero=>
   rw[Tm.one_zero]
   cases i with
   |zero=>rfl
   |succ j=>rw[Tm.get_succ];cases Nat.beq (Nat.mod j 2) 0<;>simp [Tm.get_lf]
  |succ m=>
   rw[Tm.one_succ]
   have hm:Nat.div m 2<k:=Nat.lt_of_le_of_lt (Nat.div_le_self m 2) (by omega)
   rcases even_cases m with⟨h1,h2⟩|⟨h1,h2⟩<;>rw[h1]
   ·cases i with
    |zero=>simp [Tm.get_zero]
    |succ j=>
     simp only[cond]
     rw[Tm.get_succ]
     rcases even_cases j with⟨h3,h4⟩|⟨h3,h4⟩<;>rw[h3]
     ·simp only[cond]
      rw[ih _ v hm]
      by_cases e:Nat.div j 2=Nat.div m 2
      ·rw[if_pos e,if_pos (by omega)]
      ·rw[if_neg e,if_neg (by intro hh;exact e (by rw[Nat.succ.inj hh]))]
     ·simp only[cond]
      rw[Tm.get_lf,if_neg (by omega)]
   ·cases i with
    |zero=>simp [Tm.get_zero]
    |succ j=>
     simp only[cond]
     rw[Tm.get_succ]
     rcases even_cases j with⟨h3,h4⟩|⟨h3,h4⟩<;>rw[h3]
     ·simp only[cond]
      rw[Tm.get_lf,if_neg (by omega)]
     ·simp only[cond]
      rw[ih _ v hm]
      by_cases e:Nat.div j 2=Nat.div m 2
      ·rw[if_pos e,if_pos (by omega)]
      ·rw[if_neg e,if_neg (by intro hh;exact e (by rw[Nat.succ.inj hh]))]
theorem Tm.get_set(t:Tm):∀ (n:Nat) (v:AV) (i:Nat),(t.set n v).get i=if i=n then v else t.get i:=by
 induction t with
 |lf=>intro n v i;rw[Tm.set_lf,Tm.get_one (n+1) n v (by omega)];rfl
 |nd x l r ihl ihr=>
  intro n v i
  cases n with
  |zero=>
   rw[Tm.set_zero]
   cases i with
   |zero=>rfl
   |succ j=>rw[if_neg (by omega)];rfl
  |succ m=>
   rw[Tm.set_succ]
   rcases even_cases m with⟨h1,h2⟩|⟨h1,h2⟩<;>rw[h1]<;>simp only[cond]
   ·cases i with
    |zero=>simp [Tm.get_zero]
    |succ j=>
     rw[Tm.get_succ,Tm.get_succ]
     rcases even_cases j with⟨h3,h4⟩|⟨h3,h4⟩<;>rw[h3]<;>simp only[cond]
     ·rw[ihl]
      by_cases e:Nat.div j 2=Nat.div m 2
      ·rw[if_pos e,if_pos (by omega)]
      ·rw[if_neg e,if_neg (by intro hh;exact e (by rw[Nat.succ.inj hh]))]
     ·rw[if_neg (by omega)]
   ·cases i with
    |zero=>simp [Tm.get_zero]
    |succ j=>
     rw[Tm.get_succ,Tm.get_succ]
     rcases even_cases j with⟨h3,h4⟩|⟨h3,h4⟩<;>rw[h3]<;>simp only[cond]
     ·rw[if_neg (by omega)]
     ·rw[ihr]
      by_cases e:Nat.div j 2=Nat.div m 2
      ·rw[if_pos e,if_pos (by omega)]
      ·rw[if_neg e,if_neg (by intro hh;exact e (by rw[Nat.succ.inj hh]))]
theorem TR.set{E t vs d v x} (ht:TR E t vs) (hd:d<vs.size) (hv:VR E v x):TR E (t.set d v) (vs.setIfInBounds d x):=by
 intro i
 rw[Tm.get_set]
 by_cases e:i=d
 ·subst e
  rw[if_pos rfl]
  simpa [Array.getD_eq_getD_getElem?,hd]using hv
 ·rw[if_neg e]
  have:=ht i
  simpa [Array.getD_eq_getD_getElem?,Array.getElem?_setIfInBounds_ne (Ne.symm e)]using this
theorem Act.put_size(a:Act) (dst:Option Tmp) (v:Value):(a.put dst v).tmps.size=a.tmps.size:=by
 cases dst<;>simp [Act.put]
theorem Act.put_defs(a:Act) (dst:Option Tmp) (v:Value):(a.put dst v).defers=a.defers:=by
 cases dst<;>rfl
theorem putK_ok{c P X fn rd n todo k K} (hk:KOk c P X fn rd n todo k K) {E t h d r a u w dst v x o} (S:SR c E n t h d r a u w) (F:FxOk E X fn rd r.isSome) (hv:VR E v x)
  (ho:putK n dst v t (fun t=>K t h d r)=some o):Good c P X (St X (a.put dst x) todo u w) k E h w n r o:=by
 unfold putK at ho
 cases dst with
 |none=>exact hk E t h d r _ u w o S F ho
 |some e=>
  simp only at ho
  cases hb:Nat.blt e n with
  |false=>simp [hb]at ho
  |true=>
   simp only[hb,cond,headA_eq,Tm.setK_eq]at ho
   have he:e<a.tmps.size:=by rw[S.n];exact Nat.le_of_ble_eq_true hb
   exact hk E _ h d r _ u w o ⟨S.g,S.t.set he hv,by rw[Act.put_size];exact S.n,S.w,by rw[Act.put_defs];exact S.d,S.r⟩ F ho
def kindOf:Option RM→CallKind
 |none=>.normal
 |some _=>.deferred
def CsOk(r:Option RM) (cs:FrameMode→List Frame):Prop:=
 match r with
 |none=>∃ cs0,cs=fun _=>cs0
 |some _=>∃ (c0:Frame) (cs0:List Frame),cs=fun u=>({c0 with mode:=u}:Frame)::cs0
def AEnd.val:AEnd→AV
 |.ret v=>v
 |.pan v=>v
def Fin(P:Program) (fr:Frame) (w:World) (e:AEnd) (x:Value):Prop:=
 match e with
 |.ret _=>fr.going P w (.returned x)
 |.pan _=>fr.going P w (.panicked [{v:=x,recovered:=false}])
def backM(e:AEnd) (c0:Frame) (cs0:List Frame) (w:World) (x:Value):Machine:=
 match e with
 |.ret _=>lone (c0.finish x) cs0 w
 |.pan _=>lone (c0.raise [{v:=x,recovered:=false}]) cs0 w
def CallAt(c:Ctx) (P:Program) (cl:Callee') (h:List Ob) (r:Option RM) (e:AEnd) (h':List Ob) (r':Option RM):Prop:=
 ∀ (E:Rn) (w:World) (u:FrameMode),WR E h w→GR c E→RR E r u →
 match cl with
 |.fn f args=>∀ vs:Array Value,LR E args vs.toList →
   (∀ w,(callFunc f vs).run P w=.ok (.enter f vs) w) ∧
   ∀ cs,CsOk r cs→∃ E' w' u' fr x,Adv E h w E' h' w'∧RR E' r' u'∧r'.isSome=r.isSome∧VR E' e.val x ∧
    Steps P (lone (Frame.enter P f vs (kindOf r)) (cs u) w) (lone fr (cs u') w')∧fr.fn=f∧fr.kind=kindOf r∧Fin P fr w' e x
 |.yield i args=>∀ (b n:Nat) (vs:Array Value),E.a i 0=some (b,n)→LR E args vs.toList →
   ∃ f tmps a bd,(Instr.yield b vs).run P w=.ok (.round b f tmps a bd) w ∧
   ∀ c0 cs0,∃ E' w' x,Adv E h w E' h' w'∧RR E' r' u∧r'.isSome=r.isSome∧VR E' e.val x ∧
    Steps P (lone (Frame.round b f tmps a bd .normal) (c0::cs0) w) (backM e c0 cs0 w' x)
def CallOk(c:Ctx) (P:Program) (call:CallF):Prop:=
 ∀ cl h r e h' r',call cl h r=some (.mk e h' r')→CallAt c P cl h r e h' r'
def Invoked(P:Program) (E:Rn) (w:World) (cl:Callee') (s:Sem Next):Prop:=
 match cl with
 |.fn f args=>∃ vs:Array Value,LR E args vs.toList∧s.run P w=(callFunc f vs).run P w
 |.yield i args=>∃ (b n:Nat) (vs:Array Value),E.a i 0=some (b,n)∧LR E args vs.toList∧s.run P w=(Instr.yield b vs).run P w
theorem LR.append{E l l' vs vs'} (h:LR E l vs) (h':LR E l' vs'):LR E (l++l') (vs++vs'):=by
 refine⟨by simp [h.1,h'.1],?_⟩
 intro i x v hx hv
 by_cases hi:i<l.length
 ·rw[List.getElem?_append_left hi]at hx
  rw[List.getElem?_append_left (by rw[← h.1];exact hi)]at hv
  exact h.2 i x v hx hv
 ·have hi':l.length≤i:=Nat.le_of_not_lt hi
  rw[List.getElem?_append_right hi']at hx
  rw[List.getElem?_append_right (by rw[← h.1];exact hi'),← h.1]at hv
  exact h'.2 _ x v hx hv
theorem LR.cons{E x v l vs} (h:VR E x v) (h':LR E l vs):LR E (x::l) (v::vs):=by
 refine⟨by simp [h'.1],?_⟩
 intro i y u hy hu
 cases i with
 |zero=>simp only[List.getElem?_cons_zero,Option.some.injEq]at hy hu;subst hy;subst hu;exact h
 |succ i=>exact h'.2 i y u (by simpa using hy) (by simpa using hu)
theorem LR.nil{E}:LR E [] []:=⟨rfl,fun i x v hx _=>by simp at hx⟩
theorem LR.one{E x v} (h:VR E x v):LR E [x] [v]:=.cons h .nil
theorem target_ok{P E w f fv args} {vs:Array Value} (hf:VR E f fv) (ha:LR E args vs.toList) {cl} (ht:target? f args=some cl) :
  Invoked P E w cl (do let d ← Deferred.ofValue fv vs;invoke d.target d.args) ∧
  ∀ g as,cl=.fn g as→∃ cap' as',(Deferred.ofValue fv vs).run P w=.ok {target:=.fn (.func g) cap',args:=as'} w∧LR E as (as'++cap').toList:=by
 unfold target? at ht
 split at ht
 ·rename_i p
  split at ht
  ·rename_i g
   cases ht
   have hp:=hf.p_inv
   cases hp with
   |fn g=>
    refine⟨⟨vs,ha,?_⟩,?_⟩
    ·simp [Deferred.ofValue,invoke]
    ·intro g' as hh;cases hh
     exact⟨#[],vs,by simp [Deferred.ofValue],by simpa using ha⟩
  ·cases ht
 ·rename_i g first cap
  simp only[lnf_eq,Option.some.injEq]at ht
  subst ht
  cases hf with
  | @func _ _ _ first' cap' h1 h2 h3 h4=>
   have l1:LR E first first'.toList:=⟨by simpa using h1,fun i x v hx hv=>h3 i x v hx (by simpa using hv)⟩
   have l2:LR E cap cap'.toList:=⟨by simpa using h2,fun i x v hx hv=>h4 i x v hx (by simpa using hv)⟩
   have l3:LR E (first++(args++cap)) (first'++vs++cap').toList:=by
    have:=l1.append (ha.append l2)
    simpa using this
   refine⟨⟨first'++vs++cap',l3,?_⟩,?_⟩
   ·simp [Deferred.ofValue,invoke]
   ·intro g' as hh;cases hh
    exact⟨cap',first'++vs,by simp [Deferred.ofValue],l3⟩
 ·rename_i i
  cases ht
  cases hf with
  | @yield _ b n hb=>
   refine⟨⟨b,n,vs,hb,ha,?_⟩,fun g as hh=>by cases hh⟩
   simp [Deferred.ofValue,invoke]
 ·cases ht
theorem call_back{c P cl h e h' r'} (H:CallAt c P cl h none e h' r') {E w s} (W:WR E h w) (G:GR c E) (I:Invoked P E w cl s) {m0:Machine} {fr:Frame} {cs:List Frame}
  (he:∀ f vs,s.run P w=.ok (.enter f vs) w→step P m0=.next (lone (Frame.enter P f vs .normal) (fr::cs) w))
  (hr:∀ b f tmps a bd,s.run P w=.ok (.round b f tmps a bd) w→step P m0=.next (lone (Frame.round b f tmps a bd .normal) (fr::cs) w)) :
  ∃ E' w' x,Adv E h w E' h' w'∧VR E' e.val x∧Steps P m0 (backM e fr cs w' x):=by
 have H:=H E w .run W G (fun m hm=>by cases hm)
 cases cl with
 |fn f args=>
  obtain⟨vs,l,hs⟩:=I
  obtain⟨h1,h2⟩:=H vs l
  obtain⟨E',w',u',fr',x,A,_,_,hv,st,hfn,hk,hfin⟩:=h2 (fun _=>fr::cs) ⟨_,rfl⟩
  refine⟨E',w',x,A,hv,.head (he f vs (by rw[hs,h1])) (st.trans (.one ?_))⟩
  cases e with
  |ret v=>
   obtain⟨g1,g2,fn,g3,g4⟩:=hfin
   exact step_leave_returned ⟨g1,g2,hk,fn,g3,g4⟩
  |pan v=>exact step_leave_panicked hfin
 |yield i args=>
  obtain⟨b,n,vs,hb,l,hs⟩:=I
  obtain⟨f,tmps,a,bd,h1,h2⟩:=H b n vs hb l
  obtain⟨E',w',x,A,_,_,hv,st⟩:=h2 fr cs
  exact⟨E',w',x,A,hv,.head (hr b f tmps a bd (by rw[hs,h1])) st⟩
theorem VR.undef(E:Rn):VR E undefA undef:=.tup rfl fun i x v hx _=>by simp at hx
theorem method_ok{c P} (C:CtxOk c P) {ty name f} (hm:methodOf c ty name=some f) (v:Value) (k:Nat) (w:World):(method (k+1) ty v name).run P w=.ok (f,v) w:=by
 unfold methodOf at hm
 split at hm
 ·rename_i i hi
  split at hm
  ·rename_i m hfind
   split at hm
   ·rename_i g hp hfn
    split at hm
    ·cases hm
    ·rename_i d hd hu
     cases hm
     have hu':(underlying ty).run P w=.ok d w:=run_underlying C hu w
     unfold method
     simp only[Sem.run_bind,run_typeInfo C hi,Result.andThen_ok,hfind,hp,follow,Sem.run_pure,hfn,receiverAt,hu']
     cases d<;>first|(exact absurd rfl (hd _))|simp [Place.get]
    ·cases hm
   ·cases hm
  ·cases hm
 ·cases hm
theorem elemN_iff(i:Nat):∀ l,elemN i l=true↔i∈l:=by
 intro l
 induction l with
 |nil=>simp [elemN]
 |cons j l ih=>
  unfold elemN
  by_cases h:i=j
  ·subst h;simp
  ·have:Nat.beq i j=false:=by
    cases hb:Nat.beq i j with
    |false=>rfl
    |true=>exact absurd (Nat.eq_of_beq_eq_true hb) h
   rw[this];simp [ih,h]
theorem addNew_nodup{R:Type} (f:List Nat→R):∀ (l s:List Nat),s.Nodup→∃ s':List Nat,s'.Nodup∧addNew l s f=f s':=by
 intro l
 induction l with
 |nil=>intro s hs;exact⟨s,hs,rfl⟩
 |cons i l ih=>
  intro s hs
  show ∃ s':List Nat,s'.Nodup∧cond (elemN i s) (addNew l s f) (lnf (s++[i]) fun s=>addNew l s f)=f s'
  cases he:elemN i s with
  |true=>exact ih s hs
  |false=>
   have hn:i ∉ s:=fun hm=>by rw[(elemN_iff i s).2 hm]at he;cases he
   simp only[cond,lnf_eq]
   exact ih (s++[i]) (by
    rw[List.nodup_append]
    refine⟨hs,by simp,?_⟩
    intro a ha b hb hab
    simp at hb;subst hb;subst hab;exact hn ha)
theorem reach_nodup{R:Type} (h:List Ob) (f:List Nat→R):∀ (k n:Nat) (s:List Nat),s.Nodup→∃ s':List Nat,s'.Nodup∧reach h k n s f=f s':=by
 intro k
 induction k with
 |zero=>intro n s hs;exact⟨s,hs,rfl⟩
 |succ k ih=>
  intro n s hs
  show ∃ s':List Nat,s'.Nodup∧(match s.drop n with | []=>f s|i::_=>addNew (obIds (hget h i) []) s fun s=>forceN (n+1) fun n=>reach h k n s f)=f s'
  split
  ·exact⟨s,hs,rfl⟩
  ·rename_i i _ _
   obtain⟨s1,h1,h2⟩:=addNew_nodup (fun s=>forceN (n+1) fun n=>reach h k n s f) (obIds (hget h i) []) s hs
   rw[h2]
   simp only[forceN_eq]
   exact ih (n+1) s1 h1
theorem ltN_eq(n:Nat):∀ l,ltN n l=l.filter (fun i=>decide (i<n)):=by
 intro l
 induction l with
 |nil=>rfl
 |cons i l ih=>
  show cond (Nat.blt i n) (i::ltN n l) (ltN n l)=_
  rw[blt_dec,ih]
  by_cases h:i<n<;>simp [h]
theorem geN_eq(n:Nat):∀ l,geN n l=l.filter (fun i=>decide (n≤i)):=by
 intro l
 induction l with
 |nil=>rfl
 |cons i l ih=>
  show cond (Nat.ble n i) (i::geN n l) (geN n l)=_
  rw[ih]
  by_cases h:n≤i
  ·rw[Nat.ble_eq_true_of_le h];simp [h]
  ·rw[show Nat.ble n i=false from by
    cases hb:Nat.ble n i with
    |false=>rfl
    |true=>exact absurd (Nat.le_of_ble_eq_true hb) h]
   simp [h]
theorem posOf_cons(i j n:Nat) (l:List Nat):posOf i (j::l) n=cond (Nat.beq i j) (some n) (posOf i l (n+1)):=by
 show cond (Nat.beq i j) (some n) (forceN (n+1) fun n=>posOf i l n)=_
 rw[forceN_eq]
theorem posOf_some{i:Nat}:∀ {l:List Nat} {n j:Nat},posOf i l n=some j→∃ m,j=n+m∧l[m]?=some i:=by
 intro l
 induction l with
 |nil=>intro n j h;cases h
 |cons x l ih=>
  intro n j h
  rw[posOf_cons]at h
  cases hb:Nat.beq i x with
  |true=>
   rw[hb]at h
   simp only[cond,Option.some.injEq]at h
   exact⟨0,by omega,by rw[Nat.eq_of_beq_eq_true hb];rfl⟩
  |false=>
   rw[hb]at h
   obtain⟨m,h1,h2⟩:=ih h
   exact⟨m+1,by omega,by simpa using h2⟩
theorem posOf_none{i:Nat}:∀ {l:List Nat} {n:Nat},posOf i l n=none→i ∉ l:=by
 intro l
 induction l with
 |nil=>intro n h;simp
 |cons x l ih=>
  intro n h
  rw[posOf_cons]at h
  cases hb:Nat.beq i x with
  |true=>rw[hb]at h;cases h
  |false=>
   rw[hb]at h
   have h1:i ≠ x:=fun e=>by subst e;simp at hb
   simp [h1,ih h]
theorem nodup_idx{l:List Nat} (h:l.Nodup) {i j k:Nat} (hi:l[i]?=some k) (hj:l[j]?=some k):i=j:=by
 obtain⟨h1,h2⟩:=List.getElem?_eq_some_iff.1 hi
 obtain⟨h3,h4⟩:=List.getElem?_eq_some_iff.1 hj
 exact(List.getElem_inj h).1 (h2.trans h4.symm)
theorem posOf_of{l:List Nat} (h:l.Nodup) {i j:Nat} (hj:l[j]?=some i):posOf i l 0=some j:=by
 cases hp:posOf i l 0 with
 |none=>exact absurd (List.mem_of_getElem? hj) (posOf_none hp)
 |some m=>
  obtain⟨m',h1,h2⟩:=posOf_some hp
  have:=nodup_idx h h2 hj
  rw[show m=j by omega]
theorem posOf_at{l:List Nat} {i j:Nat} (h:posOf i l 0=some j):l[j]?=some i:=by
 obtain⟨m,h1,h2⟩:=posOf_some h
 rw[show j=m by omega];exact h2
theorem nget_eq(l:List Nat):∀ n,nget l n=l[n]?:=by
 induction l with
 |nil=>intro n;rfl
 |cons x l ih=>
  intro n
  cases n with
  |zero=>rfl
  |succ n=>show nget l n=_;rw[ih];simp
def Live(E:Rn) (k:Nat):Prop:=∃ g y,E.a k g=some y
theorem cons_live{E:Rn} {i k g:Nat} {y:Nat×Nat} {s:List Nat} (h:E.a i g=some y) (hk:k∈i::s):Live E k∨k∈s:=by
 rcases List.mem_cons.1 hk with rfl|hk
 ·exact .inl ⟨g,y,h⟩
 ·exact .inr hk
theorem foldr_live{E:Rn} {f:AV→List Nat→List Nat} {l:List AV} {vs:List Value} (hl:LR E l vs)
  (hf:∀ q v s,VR E q v→∀ k∈f q s,Live E k∨k∈s):∀ s,∀ k∈l.foldr f s,Live E k∨k∈s:=by
 induction l generalizing vs with
 |nil=>intro s k hk;exact .inr hk
 |cons x l ih=>
  intro s k hk
  cases vs with
  |nil=>have:=hl.1;simp at this
  |cons v vs=>
   have hx:VR E x v:=hl.2 0 x v rfl rfl
   have hl':LR E l vs:=⟨by simpa using hl.1,fun i x y hx hy=>hl.2 (i+1) x y (by simpa using hx) (by simpa using hy)⟩
   rcases hf x v _ hx k hk with h|h
   ·exact .inl h
   ·exact ih hl' s k h
theorem idsN_live{E:Rn}:∀ (n:Nat) (q:AV) (v:Value) (s:List Nat),VR E q v→∀ k∈idsN n q s,Live E k∨k∈s:=by
 intro n
 induction n with
 |zero=>intro q v s _ k hk;exact .inr hk
 |succ n ih=>
  intro q v s h k hk
  cases h with
  |un v=>exact .inr hk
  |p hp=>exact .inr hk
  |ptr h=>exact cons_live h hk
  |cptr hc=>exact .inr hk
  |sl h hc hl hs=>exact cons_live h hk
  |el h=>exact cons_live h hk
  |asl h hl=>exact cons_live h hk
  |full hp hc=>exact .inr hk
  | @func f first cap first' cap' h1 h2 h3 h4=>
   have l1:LR E first first'.toList:=⟨by simpa using h1,fun i x v hx hv=>h3 i x v hx (by simpa using hv)⟩
   have l2:LR E cap cap'.toList:=⟨by simpa using h2,fun i x v hx hv=>h4 i x v hx (by simpa using hv)⟩
   rcases foldr_live l1 (fun q v s hq=>ih q v s hq) _ k hk with h|h
   ·exact .inl h
   ·exact foldr_live l2 (fun q v s hq=>ih q v s hq) _ k h
  |yield h=>exact cons_live h hk
  |face h=>exact ih _ _ s h k hk
  | @agg cs vs hl ho hp=>exact foldr_live (vs:=vs.toList) ⟨by simpa using hl,fun i x v hx hv=>hp i x v hx (by simpa using hv)⟩ (fun q v s hq=>ih q v s hq) _ k hk
  | @tup cs vs hl hp=>exact foldr_live (vs:=vs.toList) ⟨by simpa using hl,fun i x v hx hv=>hp i x v hx (by simpa using hv)⟩ (fun q v s hq=>ih q v s hq) _ k hk
  |map h=>exact cons_live h hk
theorem idsL_live{E:Rn} {l:List AV} {vs:List Value} {s:List Nat} (hl:LR E l vs):∀ k∈idsL l s,Live E k∨k∈s:=by
 have e:idsL l s=l.foldr (idsN 6) s:=by
  clear hl
  induction l with
  |nil=>rfl
  |cons x l ih=>show idsN 6 x (idsL l s)=_;rw[ih];rfl
 rw[e]
 exact foldr_live hl (fun q v s hq=>idsN_live 6 q v s hq) s
theorem Tm.ids_live{E:Rn}:∀ (t:Tm) (s:List Nat),(∀ i,∃ v,VR E (t.get i) v)→∀ k∈t.ids s,Live E k∨k∈s:=by
 intro t
 induction t with
 |lf=>intro s _ k hk;exact .inr hk
 |nd v a b iha ihb=>
  intro s h k hk
  have h0:=h 0
  have ha:∀ i,∃ v,VR E (a.get i) v:=fun i=>by
   have:=h (2*i+1)
   rw[Tm.get_succ]at this
   have e1:Nat.mod (2*i) 2=0:=by show(2*i) % 2=0;omega
   have e2:Nat.div (2*i) 2=i:=by show(2*i) / 2=i;omega
   rw[e1,e2]at this;exact this
  have hb:∀ i,∃ v,VR E (b.get i) v:=fun i=>by
   have:=h (2*i+1+1)
   rw[Tm.get_succ]at this
   have e1:Nat.mod (2*i+1) 2=1:=by show(2*i+1) % 2=1;omega
   have e2:Nat.div (2*i+1) 2=i:=by show(2*i+1) / 2=i;omega
   rw[e1,e2]at this;exact this
  obtain⟨x,hx⟩:=h0
  have hk':k∈idsN 6 v (a.ids (b.ids s)):=hk
  rcases idsN_live 6 v x _ hx k hk' with h|h
  ·exact .inl h
  ·rcases iha _ ha k h with h|h
   ·exact .inl h
   ·exact ihb _ hb k h
theorem obIds_live{E h w i} (W:WR E h w) (hi:Live E i):∀ k∈obIds (hget h i) [],Live E k:=by
 intro k hk
 have hlt:i<h.length:=by
  by_cases hh:i<h.length
  ·exact hh
  ·obtain⟨g,y,hy⟩:=hi
   rw[W.new i g (Nat.le_of_not_lt hh)]at hy;cases hy
 obtain⟨g,y,hy⟩:=hi
 obtain⟨⟨b,n⟩,hy'⟩:=W.cur i g y hlt hy
 have ho:=W.obj i b n hlt hy'
 generalize hget h i=o at ho hk
 generalize w.heap[b]?=x at ho
 cases ho with
 |cells hs hz hc=>exact(idsL_live hc.1 k hk).resolve_right (by simp)
 | @loop st p fn nt t ps a bd df b n L h1 h2 h3 h4 h5 h6 h7 h8 h9=>
  obtain⟨m,hm⟩:=h9
  have hk':k∈df::t.ids []:=hk
  rcases List.mem_cons.1 hk' with rfl|hk
  ·exact⟨0,_,hm⟩
  ·exact(Tm.ids_live t [] (fun i=>⟨_,h5 i⟩) k hk).resolve_right (by simp)
 | @iter i' _ _ _ _ _ _ _ ha hl=>
  have hk':k ∈ [i']:=hk
  rw[List.mem_singleton.1 hk']
  exact⟨0,_,ha⟩
 |_=>simp [obIds]at hk
theorem reach_mem{R:Type} (h:List Ob) (f:List Nat→R):∀ (k n:Nat) (s:List Nat),s.Nodup→∃ s':List Nat,s'.Nodup∧reach h k n s f=f s' ∧
  ∀ p:Nat→Prop,(∀ i,p i→∀ k∈obIds (hget h i) [],p k)→(∀ k∈s,p k)→∀ k∈s',p k:=by
 intro k
 induction k with
 |zero=>intro n s hs;exact⟨s,hs,rfl,fun _ _ h=>h⟩
 |succ k ih=>
  intro n s hs
  show ∃ s':List Nat,s'.Nodup∧(match s.drop n with | []=>f s|i::_=>addNew (obIds (hget h i) []) s fun s=>forceN (n+1) fun n=>reach h k n s f)=f s'∧_
  split
  ·exact⟨s,hs,rfl,fun _ _ h=>h⟩
  ·rename_i i l hd
   have hi:i∈s:=List.mem_of_mem_drop (by rw[hd];exact List.mem_cons_self ..)
   have hsub:∀ (l s:List Nat),s.Nodup→∃ s':List Nat,s'.Nodup∧addNew l s (fun s=>forceN (n+1) fun n=>reach h k n s f)=(fun s=>forceN (n+1) fun n=>reach h k n s f) s'∧∀ p:Nat→Prop,(∀ k∈l,p k)→(∀ k∈s,p k)→∀ k∈s',p k:=by
    intro l
    induction l with
    |nil=>intro s hs;exact⟨s,hs,rfl,fun _ _ h=>h⟩
    |cons i l ih=>
     intro s hs
     show ∃ s':List Nat,s'.Nodup∧cond (elemN i s) (addNew l s _) (lnf (s++[i]) fun s=>addNew l s _)=_∧_
     cases he:elemN i s with
     |true=>
      obtain⟨s',h1,h2,h3⟩:=ih s hs
      exact⟨s',h1,h2,fun p h h'=>h3 p (fun k hk=>h k (List.mem_cons_of_mem _ hk)) h'⟩
     |false=>
      have hn:i ∉ s:=fun hm=>by rw[(elemN_iff i s).2 hm]at he;cases he
      simp only[cond,lnf_eq]
      obtain⟨s',h1,h2,h3⟩:=ih (s++[i]) (by
       rw[List.nodup_append]
       refine⟨hs,by simp,?_⟩
       intro a ha b hb hab
       simp at hb;subst hb;subst hab;exact hn ha)
      refine⟨s',h1,h2,fun p h h'=>h3 p (fun k hk=>h k (List.mem_cons_of_mem _ hk)) fun k hk=>?_⟩
      rcases List.mem_append.1 hk with hk|hk
      ·exact h' k hk
      ·simp at hk;subst hk;exact h k (List.mem_cons_self ..)
   obtain⟨s1,h1,h2,h3⟩:=hsub (obIds (hget h i) []) s hs
   rw[h2]
   simp only[forceN_eq]
   obtain⟨s2,g1,g2,g3⟩:=ih (n+1) s1 h1
   exact⟨s2,g1,g2,fun p hp hps=>g3 p hp (h3 p (hp i (hps i hi)) hps)⟩
def RenOk(r:RenF) (E E':Rn):Prop:=∀ i g j g',r i g=some (j,g')→∀ x,E.a i g=some x→E'.a j g'=some x
theorem ren0_cases{R:Type} {r:RenF} {i:Nat} {f:Nat→R} {no:R} (p:R→Prop) (h1:∀ j,r i 0=some (j,0)→p (f j)) (h2:p no):p (ren0 r i f no):=by
 unfold ren0
 split
 ·rename_i j g hr
  cases g with
  |zero=>exact h1 j hr
  |succ g=>exact h2
 ·exact h2
theorem map_get{α β:Type} {f:α→β} {l:List α} {i:Nat} {y:β} (h:(l.map f)[i]?=some y):∃ x,l[i]?=some x∧y=f x:=by
 rw[List.getElem?_map]at h
 cases hx:l[i]? with
 |none=>rw[hx]at h;cases h
 |some x=>rw[hx]at h;exact⟨x,rfl,by simpa using h.symm⟩
theorem renN_ok{r:RenF} {E E':Rn} (hr:RenOk r E E') (hf:∀ b x,E.f b=some x→E'.f b=some x):∀ (k:Nat) {q v},VR E q v→VR E' (renN r k q) v:=by
 intro k
 induction k with
 |zero=>intro q v _;exact .un v
 |succ k ih=>
  intro q v h
  cases h with
  |un v=>exact .un v
  |p hp=>exact .p (hp.mono hf)
  | @ptr i off b n h=>exact ren0_cases (fun y=>VR E' y _) (fun j hj=>.ptr (hr _ _ _ _ hj _ h)) (.un _)
  |cptr hc=>exact .cptr (hc.mono hf fun _ _ hx=>cellF_mono hf hx)
  | @sl i g sz off len b n cap h hc hl hs=>
   show VR E' (match r i g with|some (j,g)=>.sl j g sz off len|none=>.un) _
   split
   ·rename_i j g' hj;exact .sl (hr _ _ _ _ hj _ h) hc hl hs
   ·exact .un _
  | @el i g sz k' o b n h=>
   show VR E' (match r i g with|some (j,g)=>.el j g sz k' o|none=>.un) _
   split
   ·rename_i j g' hj;exact .el (hr _ _ _ _ hj _ h)
   ·exact .un _
  | @asl i off len sz b n cap h hl=>exact ren0_cases (fun y=>VR E' y _) (fun j hj=>.asl (hr _ _ _ _ hj _ h) hl) (.un _)
  |full hp hc=>exact .full (hp.mono hf) hc
  | @func f first cap first' cap' h1 h2 h3 h4=>
   refine .func (by simpa using h1) (by simpa using h2) ?_ ?_
   ·intro i x v hx hv
    obtain⟨y,hy,rfl⟩:=map_get hx
    exact ih (h3 i y v hy hv)
   ·intro i x v hx hv
    obtain⟨y,hy,rfl⟩:=map_get hx
    exact ih (h4 i y v hy hv)
  | @yield i b n h=>exact ren0_cases (fun y=>VR E' y _) (fun j hj=>.yield (hr _ _ _ _ hj _ h)) (.un _)
  |face h=>exact .face (ih h)
  |agg hl ho hp=>
   refine .agg (by simpa using hl) ho ?_
   intro i x v hx hv
   obtain⟨y,hy,rfl⟩:=map_get hx
   exact ih (hp i y v hy hv)
  |tup hl hp=>
   refine .tup (by simpa using hl) ?_
   intro i x v hx hv
   obtain⟨y,hy,rfl⟩:=map_get hx
   exact ih (hp i y v hy hv)
  | @map i b n h=>exact ren0_cases (fun y=>VR E' y _) (fun j hj=>.map (hr _ _ _ _ hj _ h)) (.un _)
theorem ren_ok{r:RenF} {E E':Rn} (hr:RenOk r E E') (hf:∀ b x,E.f b=some x→E'.f b=some x) {q v} (h:VR E q v):VR E' (ren r q) v:=renN_ok hr hf 6 h
theorem renl_ok{r:RenF} {E E':Rn} (hr:RenOk r E E') (hf:∀ b x,E.f b=some x→E'.f b=some x) {l vs} (h:LR E l vs):LR E' (renl r l) vs:=by
 refine⟨by simpa [renl]using h.1,?_⟩
 intro i x v hx hv
 obtain⟨y,hy,rfl⟩:=map_get hx
 exact ren_ok hr hf (h.2 i y v hy hv)
theorem Tm.ren_get(r:RenF) (t:Tm):∀ i,(t.ren r).get i=Ai.ren r (t.get i):=by
 induction t with
 |lf=>intro i;rfl
 |nd v a b iha ihb=>
  intro i
  cases i with
  |zero=>rfl
  |succ m=>
   show(Tm.nd (Ai.ren r v) (a.ren r) (b.ren r)).get (m+1)=_
   rw[Tm.get_succ,Tm.get_succ]
   cases Nat.beq (Nat.mod m 2) 0
   ·exact ihb _
   ·exact iha _
theorem renOb_ok{r:RenF} {E E':Rn} (hr:RenOk r E E') (hf:∀ b x,E.f b=some x→E'.f b=some x) (g:Nat) {o b n x} (ho:OR E o b n x):OR E' (renOb r g o) b n x:=by
 cases ho with
 |dead=>exact .dead
 |cells hs hz hc=>exact .cells hs hz ⟨renl_ok hr hf hc.1,hc.2⟩
 |row hs hz h0 hn he hx=>exact .row hs hz h0 hn he (hx.mono hf fun _ _ hx=>hx)
 |fr h0 hn hx=>exact .fr h0 hn (hx.mono hf fun _ _ hx=>cellF_mono hf hx)
 |map hs hk hm=>exact .map hs hk fun i x y hx hy=>⟨(hm i x y hx hy).1.mono hf,(hm i x y hx hy).2.mono hf⟩
 | @loop st p fn nt t ps a bd df b n L h1 h2 h3 h4 h5 h6 h7 h8 h9=>
  obtain⟨m,hm⟩:=h9
  refine ren0_cases (fun y=>OR E' y _ _ _) (fun j hj=>.loop h1 h2 h3 h4 ?_ h6 h7 h8 ⟨m,hr _ _ _ _ hj _ hm⟩) .dead
  intro i
  rw[Tm.ren_get]
  exact ren_ok hr hf (h5 i)
 |defd=>exact .defd
 |iter0=>exact .iter0
 |iter ha hl=>exact ren0_cases (fun y=>OR E' y _ _ _) (fun j hj=>.iter (hr _ _ _ _ hj _ ha) hl) .dead
theorem renOb_dead{r:RenF} {g:Nat} {o:Ob} (h:(renOb r g o).isDead=false):o.isDead=false:=by
 cases o<;>first|rfl|exact h
theorem renOb_soft{r:RenF} {g:Nat} {o:Ob} (h:(renOb r g o).soft=true):o.soft=true:=by
 cases o<;>first|rfl|exact h
theorem renOb_gen0{r:RenF} (o:Ob):obGen (renOb r 0 o)=0:=by
 cases o with
 |loop l=>obtain⟨st,p,fn,n,t,ps,a,b,df⟩:=l;exact ren0_cases (fun y=>obGen y=0) (fun _ _=>rfl) rfl
 |iter m k b=>
  cases m with
  |none=>rfl
  |some i=>exact ren0_cases (fun y=>obGen y=0) (fun _ _=>rfl) rfl
 |_=>rfl
theorem renOb_gen{r:RenF} {g:Nat} {o:Ob} (h:hasGen o=true∨g=0):obGen (renOb r g o)=g:=by
 rcases h with h|rfl
 ·cases o<;>first|rfl|(simp [hasGen]at h)
 ·exact renOb_gen0 o
noncomputable def Rn.small(E:Rn) (h:List Ob) (ks:List Nat):Rn where
 a:=fun j g=>if g=0 then(match ks[j]? with|some k=>E.a k (obGen (hget h k))|none=>none)else none
 f:=E.f
theorem small_at{E:Rn} {h ks j k} (hk:ks[j]?=some k):(E.small h ks).a j 0=E.a k (obGen (hget h k)):=by
 simp [Rn.small,hk]
theorem small_some{E:Rn} {h ks j g x} (hx:(E.small h ks).a j g=some x):g=0∧∃ k,ks[j]?=some k∧E.a k (obGen (hget h k))=some x:=by
 have hx':(if g=0 then(match ks[j]? with|some k=>E.a k (obGen (hget h k))|none=>none)else none)=some x:=hx
 split at hx'
 ·rename_i hg
  refine⟨hg,?_⟩
  split at hx'
  ·rename_i k hk;exact⟨k,hk,hx'⟩
  ·cases hx'
 ·cases hx'
theorem pick_length(r:RenF) (h:List Ob) (ks:List Nat):(pick r h hget ks).length=ks.length:=by
 induction ks with
 |nil=>rfl
 |cons k ks ih=>simp [pick,ih]
theorem pick_get(r:RenF) (h:List Ob):∀ (ks:List Nat) (j:Nat),hget (pick r h hget ks) j=match ks[j]? with|some k=>renOb r 0 (hget h k)|none=>.dead:=by
 intro ks
 induction ks with
 |nil=>intro j;rfl
 |cons k ks ih=>
  intro j
  cases j with
  |zero=>rfl
  |succ j=>show hget (pick r h hget ks) j=_;rw[ih];simp
theorem pickK_eq{R:Type} (r:RenF) (h:List Ob) (l:List Nat):∀ (f:List Ob→R),pickK r h l f=f (pick r h hget l):=by
 induction l with
 |nil=>intro f;rfl
 |cons i l ih=>
  intro f
  show renObK r 0 (hget h i) (fun o=>pickK r h l fun l=>f (o::l))=_
  rw[renObK_eq,ih];rfl
theorem pick_at{r:RenF} {h:List Ob} {ks:List Nat} {j k:Nat} (hk:ks[j]?=some k):hget (pick r h hget ks) j=renOb r 0 (hget h k):=by
 rw[pick_get,hk]
theorem pick_gen(r:RenF) (h:List Ob) (ks:List Nat) (j:Nat):obGen (hget (pick r h hget ks) j)=0:=by
 rw[pick_get]
 split
 ·exact renOb_gen0 _
 ·rfl
section
variable {E:Rn} {h:List Ob} {w:World} {ks:List Nat}
theorem inR_ok(E:Rn):RenOk (inR h ks) E (E.small h ks):=by
 intro i g j g' hr x hx
 unfold inR at hr
 split at hr
 ·rename_i m hm
  cases hb:Nat.beq (obGen (hget h i)) g with
  |false=>rw[hb]at hr;cases hr
  |true=>
   rw[hb]at hr
   cases hr
   rw[small_at (posOf_at hm),Nat.eq_of_beq_eq_true hb]
   exact hx
 ·cases hr
theorem small_wr(W:WR E h w) (hn:ks.Nodup):WR (E.small h ks) (pick (inR h ks) h hget ks) w:=by
 have hlt:∀ {k b n},E.a k (obGen (hget h k))=some (b,n)→k<h.length:=fun {k b n} hk=>by
  by_cases hh:k<h.length
  ·exact hh
  ·rw[W.new k _ (Nat.le_of_not_lt hh)]at hk;cases hk
 refine⟨?_,W.frz,?_,?_,?_,?_,?_,fun i g x _ hx=>by rw[pick_gen];obtain⟨rfl,_⟩:=small_some hx;exact⟨x,hx⟩⟩
 ·intro i g b n ha
  obtain⟨_,k,_,hk⟩:=small_some ha
  exact W.bnd _ _ _ _ hk
 ·intro i b n hi ha
  obtain⟨_,k,hk,hk'⟩:=small_some ha
  rw[pick_at hk]
  exact renOb_ok (inR_ok E) (fun _ _ h=>h) 0 (W.obj k b n (hlt hk') hk')
 ·intro i b n hi ha hs
  obtain⟨_,k,hk,hk'⟩:=small_some ha
  rw[pick_at hk]at hs
  exact W.own k b n (hlt hk') hk' (renOb_soft hs)
 ·intro i j b n m hi hj ha hb hd1 hd2
  obtain⟨_,k,hk,hk'⟩:=small_some ha
  obtain⟨_,l,hl,hl'⟩:=small_some hb
  rw[pick_at hk]at hd1
  rw[pick_at hl]at hd2
  have:=W.inj k l b n m (hlt hk') (hlt hl') hk' hl' (renOb_dead hd1) (renOb_dead hd2)
  subst this
  exact nodup_idx hn hk hl
 ·intro i g hi hg
  rw[pick_gen]at hg
  show(if g=0 then _ else _)=none
  rw[if_neg (by omega)]
 ·intro i g hi
  rw[pick_length]at hi
  show(if g=0 then(match ks[i]? with|some k=>E.a k (obGen (hget h k))|none=>none)else none)=none
  rw[List.getElem?_eq_none hi]
  split<;>rfl
end
theorem putBackK_eq{R:Type} (r:RenF) (h0:List Ob):∀ (ks:List Nat) (os h:List Ob) (f:List Ob→R),putBackK r h0 h ks os f=f (putBack r h0 h ks os):=by
 intro ks
 induction ks with
 |nil=>intro os h f;simp [putBackK,putBack]
 |cons k ks ih=>
  intro os h f
  cases os with
  |nil=>simp [putBackK,putBack]
  |cons o os=>
   simp only[putBackK,putBack,forceN_eq,renObK_eq,hsetK_eq]
   exact ih os _ f
theorem putBack_length(r:RenF) (h0:List Ob):∀ (ks:List Nat) (os h:List Ob),(putBack r h0 h ks os).length=h.length:=by
 intro ks
 induction ks with
 |nil=>intro os h;simp [putBack]
 |cons k ks ih=>
  intro os h
  cases os with
  |nil=>simp [putBack]
  |cons o os=>rw[putBack,ih];simp
theorem putBack_other(r:RenF) (h0:List Ob) {i:Nat}:∀ (ks:List Nat) (os h:List Ob),i ∉ ks→hget (putBack r h0 h ks os) i=hget h i:=by
 intro ks
 induction ks with
 |nil=>intro os h _;simp [putBack]
 |cons k ks ih=>
  intro os h hi
  simp only[List.mem_cons,not_or]at hi
  cases os with
  |nil=>simp [putBack]
  |cons o os=>
   rw[putBack,ih _ _ hi.2]
   rw[hget_eq (hset _ _ _),hset_eq,hget_eq h]
   simp [Ne.symm hi.1]
theorem putBack_at(r:RenF) (h0:List Ob) {k:Nat} {o:Ob}:∀ (ks:List Nat) (os h:List Ob) (j:Nat),ks.Nodup→ks[j]?=some k→os[j]?=some o→k<h.length →
  hget (putBack r h0 h ks os) k=renOb r (backGen (obGen (hget h0 k)) (obGen o)) o:=by
 intro ks
 induction ks with
 |nil=>intro os h j _ hk;simp at hk
 |cons l ks ih=>
  intro os h j hn hk ho hlt
  cases os with
  |nil=>simp at ho
  |cons o' os=>
   rw[putBack]
   cases j with
   |zero=>
    simp only[List.getElem?_cons_zero,Option.some.injEq]at hk ho
    subst hk;subst ho
    rw[putBack_other _ _ _ _ _ (List.nodup_cons.1 hn).1,hget_hset _ _ _ _ hlt,if_pos rfl]
   |succ j=>
    exact ih os _ j (List.nodup_cons.1 hn).2 (by simpa using hk) (by simpa using ho) (by simpa using hlt)
theorem backOk_at{h:List Ob} {k:Nat} {o:Ob}:∀ {ks:List Nat} {os:List Ob} {j:Nat},backOk h ks os=true→ks[j]?=some k→os[j]?=some o→hasGen o=true∨obGen (hget h k)=0:=by
 intro ks
 induction ks with
 |nil=>intro os j _ hk;simp at hk
 |cons l ks ih=>
  intro os j hb hk ho
  cases os with
  |nil=>simp at ho
  |cons o' os=>
   unfold backOk at hb
   cases j with
   |zero=>
    simp only[List.getElem?_cons_zero,Option.some.injEq]at hk ho
    subst hk;subst ho
    cases hg:hasGen o' with
    |true=>exact .inl rfl
    |false=>
     rw[hg]at hb
     simp only[cond]at hb
     cases hz:Nat.beq (obGen (hget h l)) 0 with
     |true=>exact .inr (Nat.eq_of_beq_eq_true hz)
     |false=>rw[hz]at hb;simp at hb
   |succ j=>
    refine ih (j:=j) ?_ (by simpa using hk) (by simpa using ho)
    cases hg:hasGen o' with
    |true=>rw[hg]at hb;exact hb
    |false=>
     rw[hg]at hb
     simp only[cond]at hb
     cases hz:Nat.beq (obGen (hget h l)) 0 with
     |true=>rw[hz]at hb;exact hb
     |false=>rw[hz]at hb;simp at hb
noncomputable def Rn.big(E:Rn) (h:List Ob) (ks:List Nat) (E':Rn) (h':List Ob) (ns:List Nat):Rn where
 a:=fun i g=>if i<h.length then
   (match E.a i g with
   |some x=>some x
   |none=>(match posOf i ks 0 with
    |some j=>if g=backGen (obGen (hget h i)) (obGen (hget h' j))then E'.a j (obGen (hget h' j))else none
    |none=>none))
  else(match ns[i-h.length]? with
   |some i'=>if g=0 then E'.a i' (obGen (hget h' i'))else none
   |none=>none)
 f:=E'.f
theorem backGen_ge(g0 g1:Nat):g0≤backGen g0 g1:=by
 cases g1 with
 |zero=>exact Nat.le_refl _
 |succ g=>exact Nat.le_succ _
section
variable {E E':Rn} {h h':List Ob} {w w':World} {ks ns:List Nat}
theorem big_new{i g i':Nat} (hi:¬ i<h.length) (hn:ns[i-h.length]?=some i') (hg:g=0):(E.big h ks E' h' ns).a i g=E'.a i' (obGen (hget h' i')):=by
 show(if i<h.length then _ else _)=_
 rw[if_neg hi,hn]
 simp [hg]
theorem big_other{i g:Nat} (hi:i<h.length) (hk:i ∉ ks):(E.big h ks E' h' ns).a i g=E.a i g:=by
 show(if i<h.length then _ else _)=_
 rw[if_pos hi]
 cases hp:posOf i ks 0 with
 |some j=>exact absurd (List.mem_of_getElem? (posOf_at hp)) hk
 |none=>cases E.a i g<;>rfl
theorem big_keep{i g x} (hi:i<h.length) (hx:E.a i g=some x):(E.big h ks E' h' ns).a i g=some x:=by
 show(if i<h.length then _ else _)=_
 rw[if_pos hi,hx]
theorem big_old(W:WR E h w) (A:Adv (E.small h ks) (pick (inR h ks) h hget ks) w E' h' w') (hn:ks.Nodup) {j k:Nat} (hk:ks[j]?=some k) (hlt:k<h.length) :
  (E.big h ks E' h' ns).a k (backGen (obGen (hget h k)) (obGen (hget h' j)))=E'.a j (obGen (hget h' j)):=by
 show(if k<h.length then _ else _)=_
 rw[if_pos hlt,posOf_of hn hk]
 simp only[if_true]
 cases hg:obGen (hget h' j)with
 |zero=>
  show(match E.a k (obGen (hget h k))with|some x=>some x|none=>E'.a j 0)=E'.a j 0
  cases hx:E.a k (obGen (hget h k))with
  |none=>rfl
  |some x=>exact(A.le.a j 0 x (by rw[small_at hk];exact hx)).symm
 |succ g=>
  show(match E.a k (obGen (hget h k)+1)with|some x=>some x|none=>E'.a j (g+1))=E'.a j (g+1)
  rw[W.old k _ hlt (by omega)]
theorem outR_ok(W:WR E h w) (A:Adv (E.small h ks) (pick (inR h ks) h hget ks) w E' h' w') (hn:ks.Nodup) (hlt:∀ k∈ks,k<h.length) :
  RenOk (outR h ks h' ns) E' (E.big h ks E' h' ns):=by
 intro i g j g' hr x hx
 unfold outR at hr
 cases hb:Nat.beq (obGen (hget h' i)) g with
 |false=>rw[hb]at hr;cases hr
 |true=>
  have hg:=Nat.eq_of_beq_eq_true hb
  rw[hb]at hr
  simp only[cond,nget_eq,forceN_eq]at hr
  cases hk:ks[i]? with
  |some k=>
   rw[hk]at hr
   cases hr
   subst hg
   rw[big_old W A hn hk (hlt _ (List.mem_of_getElem? hk))]
   exact hx
  |none=>
   rw[hk]at hr
   simp only at hr
   cases hp:posOf i ns 0 with
   |none=>rw[hp]at hr;cases hr
   |some m=>
    rw[hp]at hr
    cases hr
    rw[big_new (i':=i) (by omega) (by rw[show h.length+m-h.length=m by omega];exact posOf_at hp) rfl,hg]
    exact hx
def Src(h:List Ob) (ks ns:List Nat) (i i':Nat):Prop:=(i<h.length∧ks[i']?=some i)∨(h.length≤i∧ns[i-h.length]?=some i')
theorem back_ok(W:WR E h w) (A:Adv (E.small h ks) (pick (inR h ks) h hget ks) w E' h' w') (hn:ks.Nodup) (hlt:∀ k∈ks,k<h.length) (hm:ns.Nodup) (hge:∀ i∈ns,ks.length≤i)
  (hb:backOk h ks (h'.take ks.length)=true) (hlive:∀ k∈ks,∃ g y,E.a k g=some y) :
  Adv E h w (E.big h ks E' h' ns) (putBack (outR h ks h' ns) h h ks (h'.take ks.length)++pick (outR h ks h' ns) h' hget ns) w':=by
 have hlen:ks.length≤h'.length:=by have:=A.len;rwa[pick_length]at this
 generalize hr:outR h ks h' ns=r
 have hren:RenOk r E' (E.big h ks E' h' ns):=hr ▸ outR_ok W A hn hlt
 have W':=A.wr
 generalize h3e:putBack r h h ks (h'.take ks.length)++pick r h' hget ns=h3
 have h3len:h3.length=h.length+ns.length:=by rw[← h3e];simp [putBack_length,pick_length]
 have h3lt:∀ i,i<h.length→hget h3 i=hget (putBack r h h ks (h'.take ks.length)) i:=fun i hi=>by
  rw[← h3e,hget_eq,hget_eq,List.getElem?_append_left (by rw[putBack_length];exact hi)]
 have h3ge:∀ i,h.length≤i→hget h3 i=hget (pick r h' hget ns) (i-h.length):=fun i hi=>by
  rw[← h3e,hget_eq,hget_eq,List.getElem?_append_right (by rw[putBack_length];exact hi),putBack_length]
 have hos:∀ j,j<ks.length→(h'.take ks.length)[j]?=some (hget h' j):=fun j hj=>by
  rw[List.getElem?_take,if_pos hj,hget_eq,List.getElem?_eq_getElem (by omega)];rfl
 have hA:∀ i j,i<h.length→ks[j]?=some i→hget h3 i=renOb r (backGen (obGen (hget h i)) (obGen (hget h' j))) (hget h' j) ∧
   obGen (hget h3 i)=backGen (obGen (hget h i)) (obGen (hget h' j)):=fun i j hi hj=>by
  have hjl:j<ks.length:=(List.getElem?_eq_some_iff.1 hj).1
  have e1:=putBack_at r h ks (h'.take ks.length) h j hn hj (hos j hjl) hi
  rw[h3lt i hi]
  refine⟨e1,?_⟩
  rw[e1]
  refine renOb_gen ?_
  rcases backOk_at hb hj (hos j hjl)with hh|hh
  ·exact .inl hh
  ·cases hg:hasGen (hget h' j)with
   |true=>exact .inl rfl
   |false=>
    refine .inr ?_
    have:obGen (hget h' j)=0:=by
     generalize hget h' j=o at hg
     cases o<;>first|rfl|(simp [hasGen]at hg)
    rw[this,hh];rfl
 have hB:∀ i,i<h.length→i ∉ ks→hget h3 i=hget h i:=fun i hi hk=>by
  rw[h3lt i hi];exact putBack_other _ _ _ _ _ hk
 have hC:∀ i i',h.length≤i→ns[i-h.length]?=some i'→hget h3 i=renOb r 0 (hget h' i'):=fun i i' hi hni=>by
  rw[h3ge i hi,pick_at hni]
 -- where objects come from
 have srcE:∀ i i',Src h ks ns i i'→(E.big h ks E' h' ns).a i (obGen (hget h3 i))=E'.a i' (obGen (hget h' i')):=by
  intro i i' hs
  rcases hs with⟨hi,hk⟩|⟨hi,hk⟩
  ·rw[(hA i i' hi hk).2,big_old W A hn hk hi]
  ·rw[hC i i' hi hk,renOb_gen0,big_new (Nat.not_lt.2 hi) hk rfl]
 have srcO:∀ i i',Src h ks ns i i'→∃ g,hget h3 i=renOb r g (hget h' i'):=by
  intro i i' hs
  rcases hs with⟨hi,hk⟩|⟨hi,hk⟩
  ·exact⟨_,(hA i i' hi hk).1⟩
  ·exact⟨_,hC i i' hi hk⟩
 have srcI:∀ i j i',Src h ks ns i i'→Src h ks ns j i'→i=j:=by
  intro i j i' h1 h2
  rcases h1 with⟨hi,hk⟩|⟨hi,hk⟩<;>rcases h2 with⟨hj,hl⟩|⟨hj,hl⟩
  ·rw[hk]at hl;cases hl;rfl
  ·have:=hge i' (List.mem_of_getElem? hl)
   have:=(List.getElem?_eq_some_iff.1 hk).1
   omega
  ·have:=hge i' (List.mem_of_getElem? hk)
   have:=(List.getElem?_eq_some_iff.1 hl).1
   omega
  ·have:=nodup_idx hm hk hl
   omega
 have cls:∀ i,i<h3.length→(∃ i',Src h ks ns i i')∨(i<h.length∧i ∉ ks):=by
  intro i hi
  by_cases hil:i<h.length
  ·by_cases hik:i∈ks
   ·obtain⟨j,hj⟩:=List.getElem?_of_mem hik
    exact .inl ⟨j,.inl ⟨hil,hj⟩⟩
   ·exact .inr ⟨hil,hik⟩
  ·have hlt':i-h.length<ns.length:=by omega
   exact .inl ⟨ns[i-h.length],.inr ⟨by omega,List.getElem?_eq_getElem hlt'⟩⟩
 have ltE':∀ {i g x},E'.a i g=some x→i<h'.length:=fun {i g x} hx=>by
  by_cases hh:i<h'.length
  ·exact hh
  ·rw[W'.new i g (Nat.le_of_not_lt hh)]at hx;cases hx
 have hle:E.le (E.big h ks E' h' ns):=by
  refine⟨fun i g x hx=>big_keep ?_ hx,fun b x hx=>A.le.f b x hx⟩
  by_cases hh:i<h.length
  ·exact hh
  ·rw[W.new i g (Nat.le_of_not_lt hh)]at hx;cases hx
 -- a block of an object that was not given away is none of the small memory's
 have away:∀ i b n,i<h.length→i ∉ ks→(hget h i).isDead=false→E.a i (obGen (hget h i))=some (b,n) →
   ∀ j m,j<(pick (inR h ks) h hget ks).length→(hget (pick (inR h ks) h hget ks) j).isDead=false→(E.small h ks).a j (obGen (hget (pick (inR h ks) h hget ks) j))=some (b,m)→False:=by
  intro i b n hi hk hd ha j m hj hdj haj
  obtain⟨_,k,hjk,hk'⟩:=small_some haj
  rw[pick_at hjk]at hdj
  have:=W.inj i k b n m hi (hlt k (List.mem_of_getElem? hjk)) ha hk' hd (renOb_dead hdj)
  subst this
  exact hk (List.mem_of_getElem? hjk)
 have blockB:∀ i b n,i<h.length→i ∉ ks→(hget h i).isDead=false→E.a i (obGen (hget h i))=some (b,n)→w'.heap[b]?=w.heap[b]?:=by
  intro i b n hi hk hd ha
  refine A.keep.block b (W.bnd _ _ _ _ ha) fun j m hj hs haj=>?_
  exact away i b n hi hk hd ha j m hj (Ob.isDead_of_soft hs) haj
 have back:∀ i b n,i<h'.length→(hget h' i).isDead=false→E'.a i (obGen (hget h' i))=some (b,n)→b<w.heap.size →
   ∃ k m,k∈ks∧(hget h k).isDead=false∧E.a k (obGen (hget h k))=some (b,m)∧((hget h' i).soft=true→(hget h k).soft=true):=by
  intro i b n hi hd ha hbs
  obtain⟨j,m,hj,hdj,haj,hsj⟩:=A.gain i b n hi hd ha hbs
  obtain⟨_,k,hjk,hk'⟩:=small_some haj
  rw[pick_at hjk]at hdj hsj
  exact⟨k,m,List.mem_of_getElem? hjk,renOb_dead hdj,hk',fun hs=>renOb_soft (hsj hs)⟩
 have wr:WR (E.big h ks E' h' ns) h3 w':=by
  refine⟨?_,W'.frz,?_,?_,?_,?_,?_,?_⟩
  ·intro i g b n ha
   have ha' : (if i < h.length then
     (match E.a i g with
     |some x=>some x
     |none=>(match posOf i ks 0 with
      |some j=>if g=backGen (obGen (hget h i)) (obGen (hget h' j))then E'.a j (obGen (hget h' j))else none
      |none=>none))
    else(match ns[i-h.length]? with
     |some i'=>if g=0 then E'.a i' (obGen (hget h' i'))else none
     |none=>none))=some (b,n):=ha
   split at ha'
   ·split at ha'
    ·rename_i x hx
     cases ha'
     exact Nat.lt_of_lt_of_le (W.bnd _ _ _ _ hx) A.keep.size
    ·split at ha'
     ·split at ha'
      ·exact W'.bnd _ _ _ _ ha'
      ·cases ha'
     ·cases ha'
   ·split at ha'
    ·split at ha'
     ·exact W'.bnd _ _ _ _ ha'
     ·cases ha'
    ·cases ha'
  ·intro i b n hi ha
   rcases cls i hi with⟨i',hs⟩|⟨hil,hik⟩
   ·rw[srcE i i' hs]at ha
    obtain⟨g,hg⟩:=srcO i i' hs
    rw[hg]
    exact renOb_ok hren (fun _ _ hx=>hx) g (W'.obj i' b n (ltE' ha) ha)
   ·rw[hB i hil hik]at ha ⊢
    rw[big_other hil hik]at ha
    by_cases hd:(hget h i).isDead=true
    ·cases hx:hget h i<;>simp [hx,Ob.isDead]at hd
     exact .dead
    ·rw[blockB i b n hil hik (by simpa using hd) ha]
     exact(W.obj i b n hil ha).mono hle
  ·intro i b n hi ha hsoft
   rcases cls i hi with⟨i',hs⟩|⟨hil,hik⟩
   ·rw[srcE i i' hs]at ha
    obtain⟨g,hg⟩:=srcO i i' hs
    rw[hg]at hsoft
    exact W'.own i' b n (ltE' ha) ha (renOb_soft hsoft)
   ·rw[hB i hil hik]at ha hsoft
    rw[big_other hil hik]at ha
    show E'.f b=none
    cases hf:E'.f b with
    |none=>rfl
    |some vs=>
     obtain⟨j,m,hj,hsj,haj⟩:=A.fgain b vs hf (W.own i b n hil ha hsoft) (W.bnd _ _ _ _ ha)
     exact(away i b n hil hik (Ob.isDead_of_soft hsoft) ha j m hj (Ob.isDead_of_soft hsj) haj).elim
  ·intro i j b n m hi hj ha hb' hd1 hd2
   rcases cls i hi with⟨i',hs⟩|⟨hil,hik⟩<;>rcases cls j hj with⟨j',ht⟩|⟨hjl,hjk⟩
   ·rw[srcE i i' hs]at ha
    rw[srcE j j' ht]at hb'
    obtain⟨g,hg⟩:=srcO i i' hs
    obtain⟨g',hg'⟩:=srcO j j' ht
    rw[hg]at hd1
    rw[hg']at hd2
    have:=W'.inj i' j' b n m (ltE' ha) (ltE' hb') ha hb' (renOb_dead hd1) (renOb_dead hd2)
    subst this
    exact srcI i j i' hs ht
   ·rw[srcE i i' hs]at ha
    obtain⟨g,hg⟩:=srcO i i' hs
    rw[hg]at hd1
    rw[hB j hjl hjk]at hb' hd2
    rw[big_other hjl hjk]at hb'
    obtain⟨k,m',hk,hdk,hak,_⟩:=back i' b n (ltE' ha) (renOb_dead hd1) ha (W.bnd _ _ _ _ hb')
    have:=W.inj j k b m m' hjl (hlt k hk) hb' hak hd2 hdk
    subst this
    exact absurd hk hjk
   ·rw[srcE j j' ht]at hb'
    obtain⟨g,hg⟩:=srcO j j' ht
    rw[hg]at hd2
    rw[hB i hil hik]at ha hd1
    rw[big_other hil hik]at ha
    obtain⟨k,m',hk,hdk,hak,_⟩:=back j' b m (ltE' hb') (renOb_dead hd2) hb' (W.bnd _ _ _ _ ha)
    have:=W.inj i k b n m' hil (hlt k hk) ha hak hd1 hdk
    subst this
    exact absurd hk hik
   ·rw[hB i hil hik]at ha hd1
    rw[hB j hjl hjk]at hb' hd2
    rw[big_other hil hik]at ha
    rw[big_other hjl hjk]at hb'
    exact W.inj i j b n m hil hjl ha hb' hd1 hd2
  ·intro i g hi hg
   by_cases hil:i<h.length
   ·by_cases hik:i∈ks
    ·obtain⟨j,hj⟩:=List.getElem?_of_mem hik
     rw[(hA i j hil hj).2]at hg
     show(if i<h.length then _ else _)=_
     rw[if_pos hil,W.old i g hil (Nat.lt_of_le_of_lt (backGen_ge _ _) hg),posOf_of hn hj]
     simp only
     rw[if_neg (by omega)]
    ·rw[hB i hil hik]at hg
     rw[big_other hil hik]
     exact W.old i g hil hg
   ·show(if i<h.length then _ else _)=_
    rw[if_neg hil]
    have hlt':i-h.length<ns.length:=by omega
    rw[List.getElem?_eq_getElem hlt']
    simp only
    rw[if_neg]
    intro hg0
    omega
  ·intro i g hi
   show(if i<h.length then _ else _)=_
   rw[if_neg (by omega),List.getElem?_eq_none (by omega)]
  ·intro i g x hi hx
   rcases cls i hi with⟨i',hs⟩|⟨hil,hik⟩
   ·rw[srcE i i' hs]
    rcases hs with⟨hil,hk⟩|⟨hil,hk⟩
    ·have hx' : (if i < h.length then
       (match E.a i g with
       |some x=>some x
       |none=>(match posOf i ks 0 with
        |some j=>if g=backGen (obGen (hget h i)) (obGen (hget h' j))then E'.a j (obGen (hget h' j))else none
        |none=>none))
      else(match ns[i-h.length]? with
       |some i'=>if g=0 then E'.a i' (obGen (hget h' i'))else none
       |none=>none))=some x:=hx
     rw[if_pos hil,posOf_of hn hk]at hx'
     cases hE:E.a i g with
     |some z=>
      obtain⟨y,hy⟩:=W.cur i g z hil hE
      have h1:=A.le.a i' 0 y (by rw[small_at hk];exact hy)
      exact W'.cur i' 0 y (by have:=(List.getElem?_eq_some_iff.1 hk).1;omega) h1
     |none=>
      rw[hE]at hx'
      simp only at hx'
      split at hx'
      ·exact⟨x,hx'⟩
      ·cases hx'
    ·have hx' : (if i < h.length then
       (match E.a i g with
       |some x=>some x
       |none=>(match posOf i ks 0 with
        |some j=>if g=backGen (obGen (hget h i)) (obGen (hget h' j))then E'.a j (obGen (hget h' j))else none
        |none=>none))
      else(match ns[i-h.length]? with
       |some i'=>if g=0 then E'.a i' (obGen (hget h' i'))else none
       |none=>none))=some x:=hx
     rw[if_neg (by omega),hk]at hx'
     simp only at hx'
     split at hx'
     ·exact⟨x,hx'⟩
     ·cases hx'
   ·rw[hB i hil hik,big_other hil hik]
    rw[big_other hil hik]at hx
    exact W.cur i g x hil hx
 refine⟨hle,wr,⟨A.keep.os,A.keep.tape,A.keep.output,A.keep.size,?_⟩,?_,?_,by omega,fun i hi hnone=>?_⟩
 rotate_left
 rotate_left
 rotate_left
 ·have hik:i ∉ ks:=fun hk=>by
   obtain⟨g,y,hy⟩:=hlive i hk
   rw[hnone]at hy;cases hy
  exact⟨hB i hi hik,fun g=>by rw[big_other hi hik];exact hnone g⟩
 ·intro b hbs hno
  refine A.keep.block b hbs fun j m hj hs haj=>?_
  obtain⟨_,k,hjk,hk'⟩:=small_some haj
  rw[pick_at hjk]at hs
  exact hno k m (hlt k (List.mem_of_getElem? hjk)) (renOb_soft hs) hk'
 ·intro i b n hi hd ha hbs
  rcases cls i hi with⟨i',hs⟩|⟨hil,hik⟩
  ·rw[srcE i i' hs]at ha
   obtain⟨g,hg⟩:=srcO i i' hs
   rw[hg]at hd ⊢
   obtain⟨k,m,hk,hdk,hak,hsk⟩:=back i' b n (ltE' ha) (renOb_dead hd) ha hbs
   exact⟨k,m,hlt k hk,hdk,hak,fun hh=>hsk (renOb_soft hh)⟩
  ·rw[hB i hil hik]at ha hd ⊢
   rw[big_other hil hik]at ha
   exact⟨i,n,hil,hd,ha,id⟩
 ·intro b vs h1 h2 hbs
  obtain⟨j,m,hj,hs,haj⟩:=A.fgain b vs h1 h2 hbs
  obtain⟨_,k,hjk,hk'⟩:=small_some haj
  rw[pick_at hjk]at hs
  exact⟨k,m,hlt k (List.mem_of_getElem? hjk),renOb_soft hs,hk'⟩
end
theorem GR.of_f{c:Ctx} {E E':Rn} (G:GR c E) (h:E'.f=E.f):GR c E':=by
 intro g q hq
 have:=G g q hq
 cases this with
 |cptr hc=>exact .cptr (by rw[h];exact hc)
theorem renRM_ok{r:RenF} {E E':Rn} (hr:RenOk r E E') (hf:∀ b x,E.f b=some x→E'.f b=some x) {m u} (h:RR E m u):RR E' (renRM r m) u:=by
 intro m' hm'
 cases m with
 |none=>simp [renRM]at hm'
 |some m=>
  have:=h m rfl
  cases this with
  |ret=>simp only[renRM,Option.some.injEq]at hm';subst hm';exact .ret
  |pan hv=>simp only[renRM,Option.some.injEq]at hm';subst hm';exact .pan (ren_ok hr hf hv)
theorem renRM_isSome(r:RenF) (m:Option RM):(renRM r m).isSome=m.isSome:=by
 cases m with
 |none=>rfl
 |some m=>cases m<;>rfl
theorem renRM_kind(r:RenF) (m:Option RM):kindOf (renRM r m)=kindOf m:=by
 cases m with
 |none=>rfl
 |some m=>cases m<;>rfl
theorem renRM_cs(r:RenF) (m:Option RM) (cs):CsOk (renRM r m) cs=CsOk m cs:=by
 cases m with
 |none=>rfl
 |some m=>cases m<;>rfl
theorem renRMK_eq{R:Type} (r:RenF) (m:Option RM) (f:Option RM→R):renRMK r m f=f (renRM r m):=by
 cases m with
 |none=>rfl
 |some m=>
  cases m with
  |ret=>rfl
  |pan v b=>show renK r 6 v (fun v=>f (some (.pan v b)))=_;rw[renK_eq];rfl
theorem renEndK_eq{R:Type} (r:RenF) (e:AEnd) (f:AEnd→R):renEndK r e f=f (renEnd r e):=by
 cases e with
 |ret v=>show renK r 6 v (fun v=>f (.ret v))=_;rw[renK_eq];rfl
 |pan v=>show renK r 6 v (fun v=>f (.pan v))=_;rw[renK_eq];rfl
theorem renEnd_val(r:RenF) (e:AEnd):(renEnd r e).val=ren r e.val:=by cases e<;>rfl
theorem renEnd_fin{P fr w r e x}:Fin P fr w (renEnd r e) x=Fin P fr w e x:=by cases e<;>rfl
theorem renEnd_back{r e c0 cs0 w x}:backM (renEnd r e) c0 cs0 w x=backM e c0 cs0 w x:=by cases e<;>rfl
theorem inner_at{c P h ks ns cl cl0 r e h' r'} (hlive:∀ E w u,WR E h w→RR E r u→(∀ k∈cl.roots,∃ g y,E.a k g=some y)→∀ k∈ks,∃ g y,E.a k g=some y) (hn:ks.Nodup) (hlt:∀ k∈ks,k<h.length) (hm:ns.Nodup) (hge:∀ i∈ns,ks.length≤i)
  (hb:backOk h ks (h'.take ks.length)=true) (hcl:renCallee (inR h ks) cl=some cl0)
  (H:CallAt c P cl0 (pick (inR h ks) h hget ks) (renRM (inR h ks) r) e h' r') :
  CallAt c P cl h r (renEnd (outR h ks h' ns) e) (putBack (outR h ks h' ns) h h ks (h'.take ks.length)++pick (outR h ks h' ns) h' hget ns) (renRM (outR h ks h' ns) r'):=by
 intro E w u W G hu
 have H:=H (E.small h ks) w u (small_wr W hn) (G.of_f rfl) (renRM_ok (inR_ok E) (fun _ _ hx=>hx) hu)
 cases cl with
 |fn f args=>
  simp only[renCallee,Option.some.injEq]at hcl
  subst hcl
  intro vs l
  obtain⟨h1,h2⟩:=H vs (renl_ok (inR_ok E) (fun _ _ hx=>hx) l)
  refine⟨h1,?_⟩
  intro cs hcs
  obtain⟨E',w',u',fr,x,A,k1,k2,k3,k4,k5,k6,k7⟩:=h2 cs (by rw[renRM_cs];exact hcs)
  have hren:=outR_ok (ns:=ns) W A hn hlt
  have hf:∀ b x,E'.f b=some x→(E.big h ks E' h' ns).f b=some x:=fun _ _ hx=>hx
  refine⟨E.big h ks E' h' ns,w',u',fr,x,back_ok W A hn hlt hm hge hb (hlive E w u W hu fun k hk=>(idsL_live l k hk).resolve_right (by simp)),renRM_ok hren hf k1,?_,?_,?_,k5,?_,?_⟩
  ·rw[renRM_isSome,k2,renRM_isSome]
  ·rw[renEnd_val];exact ren_ok hren hf k3
  ·rw[renRM_kind]at k4;exact k4
  ·rw[renRM_kind]at k6;exact k6
  ·rw[renEnd_fin];exact k7
 |yield i args=>
  unfold renCallee at hcl
  have key:∃ j,inR h ks i 0=some (j,0)∧cl0=.yield j (renl (inR h ks) args):=by
   revert hcl
   refine ren0_cases (fun y=>y=some cl0→∃ j,inR h ks i 0=some (j,0)∧cl0=.yield j (renl (inR h ks) args)) ?_ ?_
   ·intro j hj hh;cases hh;exact⟨j,hj,rfl⟩
   ·intro hh;cases hh
  obtain⟨j,hj,rfl⟩:=key
  intro b n vs ha l
  obtain⟨f,tmps,a,bd,h1,h2⟩:=H b n vs (inR_ok E _ _ _ _ hj _ ha) (renl_ok (inR_ok E) (fun _ _ hx=>hx) l)
  refine⟨f,tmps,a,bd,h1,?_⟩
  intro c0 cs0
  obtain⟨E',w',x,A,k1,k2,k3,k4⟩:=h2 c0 cs0
  have hren:=outR_ok (ns:=ns) W A hn hlt
  have hf:∀ b x,E'.f b=some x→(E.big h ks E' h' ns).f b=some x:=fun _ _ hx=>hx
  have hroots:∀ k∈(Callee'.yield i args).roots,∃ g y,E.a k g=some y:=by
   intro k hk
   rcases List.mem_cons.1 hk with rfl|hk
   ·exact⟨0,_,ha⟩
   ·exact(idsL_live l k hk).resolve_right (by simp)
  refine⟨E.big h ks E' h' ns,w',x,back_ok W A hn hlt hm hge hb (hlive E w u W hu hroots),renRM_ok hren hf k1,?_,?_,?_⟩
  ·rw[renRM_isSome,k2,renRM_isSome]
  ·rw[renEnd_val];exact ren_ok hren hf k3
  ·rw[renEnd_back];exact k4
theorem addNew_all{R:Type} (f:List Nat→R):∀ (l s:List Nat),s.Nodup→∃ s':List Nat,s'.Nodup∧addNew l s f=f s'∧∀ p:Nat→Prop,(∀ k∈l,p k)→(∀ k∈s,p k)→∀ k∈s',p k:=by
 intro l
 induction l with
 |nil=>intro s hs;exact⟨s,hs,rfl,fun _ _ h=>h⟩
 |cons i l ih=>
  intro s hs
  show ∃ s':List Nat,s'.Nodup∧cond (elemN i s) (addNew l s f) (lnf (s++[i]) fun s=>addNew l s f)=f s'∧_
  cases he:elemN i s with
  |true=>
   obtain⟨s',h1,h2,h3⟩:=ih s hs
   exact⟨s',h1,h2,fun p h h'=>h3 p (fun k hk=>h k (List.mem_cons_of_mem _ hk)) h'⟩
  |false=>
   have hn:i ∉ s:=fun hm=>by rw[(elemN_iff i s).2 hm]at he;cases he
   simp only[cond,lnf_eq]
   obtain⟨s',h1,h2,h3⟩:=ih (s++[i]) (by
    rw[List.nodup_append]
    refine⟨hs,by simp,?_⟩
    intro a ha b hb hab
    simp at hb;subst hb;subst hab;exact hn ha)
   refine⟨s',h1,h2,fun p h h'=>h3 p (fun k hk=>h k (List.mem_cons_of_mem _ hk)) fun k hk=>?_⟩
   rcases List.mem_append.1 hk with hk|hk
   ·exact h' k hk
   ·simp at hk;subst hk;exact h k (List.mem_cons_self ..)
theorem idsRM_live{E:Rn} {r:Option RM} {u:FrameMode} {s:List Nat} (hu:RR E r u):∀ k∈idsRM r s,Live E k∨k∈s:=by
 intro k hk
 cases r with
 |none=>exact .inr hk
 |some m=>
  have:=hu m rfl
  cases this with
  |ret=>exact .inr hk
  | @pan v x b hv=>exact idsN_live 6 v x s hv k hk
theorem inner_ok{c P} {call:CallF} (hcall:CallOk c P call) {R:Type} {cl h r} {f:CR→Option R} {o:R} (ho:inner call cl h r f none=some o) :
  ∃ e h' r',CallAt c P cl h r e h' r'∧f (.mk e h' r')=some o:=by
 unfold inner at ho
 obtain⟨s1,n1,e1,p1⟩:=addNew_all (fun s=>reach h 10000 0 s fun s=>lnf (ltN h.length s) fun ks=>innerGo call h ks cl r f none) (idsRM r cl.roots) [] List.nodup_nil
 rw[e1]at ho
 obtain⟨s2,n2,e2,p2⟩:=reach_mem h (fun s=>lnf (ltN h.length s) fun ks=>innerGo call h ks cl r f none) 10000 0 s1 n1
 rw[e2,lnf_eq,ltN_eq]at ho
 have hn:(s2.filter (fun i=>decide (i<h.length))).Nodup:=n2.filter _
 have hlt:∀ k∈s2.filter (fun i=>decide (i<h.length)),k<h.length:=fun k hk=>by simpa using(List.mem_filter.1 hk).2
 have hlive:∀ E w u,WR E h w→RR E r u→(∀ k∈cl.roots,∃ g y,E.a k g=some y)→∀ k∈s2.filter (fun i=>decide (i<h.length)),∃ g y,E.a k g=some y:=by
  intro E w u W hu hroots k hk
  refine p2 (Live E) (fun i hi=>obIds_live W hi) (p1 (Live E) (fun k hk=>?_) (fun k hk=>by simp at hk)) k (List.mem_filter.1 hk).1
  rcases idsRM_live hu k hk with h|h
  ·exact h
  ·exact hroots k h
 generalize s2.filter (fun i=>decide (i<h.length))=ks at ho hn hlt hlive
 unfold innerGo at ho
 rw[renCalleeK_eq]at ho
 cases hcl:renCallee (inR h ks) cl with
 |none=>rw[hcl]at ho;cases ho
 |some cl0=>
  rw[hcl]at ho
  simp only[pickK_eq,renRMK_eq]at ho
  cases hc:call cl0 (pick (inR h ks) h hget ks) (renRM (inR h ks) r)with
  |none=>rw[hc]at ho;cases ho
  |some x=>
   obtain⟨e,h',r'⟩:=x
   rw[hc]at ho
   simp only[innerBack,lnf_eq]at ho
   cases hb:backOk h ks (h'.take ks.length)with
   |false=>rw[hb]at ho;cases ho
   |true=>
    rw[hb]at ho
    simp only[cond]at ho
    generalize hF:(fun s=>reach h' 10000 0 s fun s=>
     renEndK (outR h ks h' (geN ks.length s)) e fun e=>renRMK (outR h ks h' (geN ks.length s)) r' fun r'=>
     putBackK (outR h ks h' (geN ks.length s)) h h ks (h'.take ks.length) fun h1=>pickK (outR h ks h' (geN ks.length s)) h' (geN ks.length s) fun h2=>f (.mk e (h1++h2) r'))=F at ho
    obtain⟨s3,n3,e3⟩:=addNew_nodup F (idsEnd e (flatIds (h'.take ks.length) (idsRM r' []))) [] List.nodup_nil
    rw[e3,← hF]at ho
    obtain⟨s4,n4,e4⟩:=reach_nodup h' (fun s=>
     renEndK (outR h ks h' (geN ks.length s)) e fun e=>renRMK (outR h ks h' (geN ks.length s)) r' fun r'=>
     putBackK (outR h ks h' (geN ks.length s)) h h ks (h'.take ks.length) fun h1=>pickK (outR h ks h' (geN ks.length s)) h' (geN ks.length s) fun h2=>f (.mk e (h1++h2) r')) 10000 0 s3 n3
    simp only at ho
    rw[e4]at ho
    rw[geN_eq]at ho
    have hm:(s4.filter (fun i=>decide (ks.length≤i))).Nodup:=n4.filter _
    have hge:∀ i∈s4.filter (fun i=>decide (ks.length≤i)),ks.length≤i:=fun i hi=>by simpa using(List.mem_filter.1 hi).2
    generalize s4.filter (fun i=>decide (ks.length≤i))=ns at ho hm hge
    simp only[renEndK_eq,renRMK_eq,putBackK_eq,pickK_eq]at ho
    exact⟨_,_,_,inner_at hlive hn hlt hm hge hb hcl (hcall _ _ _ _ _ _ hc),ho⟩
end Go.Ai

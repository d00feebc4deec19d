/- What is proved: weakest preconditions of short code are enough for a call of the interpreter, with rules for rewriting. Conditions: as before. -/
import Derived.Test.YtepjcfcfpjhpgaaGreatDoorPA08
import Derived.Test.YtepjcfcfpjhpgaaGreatDoorPA09
set_option linter.all false
namespace Go.Ai
open Go
structure SOp where
 g:Option (Option Tmp×Bool)
 op:Op
 dst:Option Tmp
inductive SC where
 |skip
 |reg (l:List SOp)
 |draw (l:List (SOp×DK))
 |seq (a b:SC)
 |cond (x:Operand) (a b:SC)
 |block (id:Nat) (b:SC)
 |loop (b:SC)
 |exit (id:Nat)
 |ret
 |no
def gOf(all:List Oper) (g:Option (Nat×Bool)):Option (Option Tmp×Bool):=
 match g with
 |none=>none
 |some (j,w)=>some ((all[j]?).bind (·.dst),w)
def trOp(all:List Oper) (o:Oper):SOp:=⟨gOf all o.guard,o.op,o.dst⟩
def trOps(all l:List Oper):List SOp:=l.map (trOp all)
def trDraw(all:List Oper):List Oper→List DK→List (SOp×DK)
 |o::l,k::ks=>(trOp all o,k)::trDraw all l ks
 |_,_=>[]
def tr:Code→SC
 |.skip=>.skip
 |.label _=>.skip
 |.region _ ops draw=>(match draw with
  |false=>.reg (trOps ops.toList ops.toList)
  |true=>(match drawInfo ops.toList with
   |some di=>.draw (trDraw ops.toList ops.toList di.ks)
   |none=>.no))
 |.seq a b=>.seq (tr a) (tr b)
 |.cond x a b=>.cond x (tr a) (tr b)
 |.block id b=>.block id (tr b)
 |.loop b=>.loop (tr b)
 |.rangeFunc _ _ _ _=>.no
 |.exit id=>.exit id
 |.scope b=>tr b
 |.ret=>.ret
 |.goto _=>.no
 |.refuse _=>.no
def okDst(n:Nat) (d:Option Tmp):Bool:=match d with|some d=>Nat.blt d n|none=>true
def okOps(n:Nat):List SOp→Bool
 | []=>true
 |s::l=>okDst n s.dst&&okOps n l
def okDraw(n:Nat):List (SOp×DK)→Bool
 | []=>true
 |s::l=>okDst n s.1.dst&&okDraw n l
def okS(n:Nat):SC→Bool
 |.reg l=>okOps n l
 |.draw l=>okDraw n l
 |.seq a b=>okS n a&&okS n b
 |.cond _ a b=>okS n a&&okS n b
 |.block _ b=>okS n b
 |.loop b=>okS n b
 |_=>true
abbrev KP:=Tm→List Ob→List AD→Option RM→Prop
abbrev Post:=AEx→KP
noncomputable def wantS(t:Tm) (g:Option (Option Tmp×Bool)):Option Bool:=
 match g with
 |none=>some true
 |some (none,_)=>some false
 |some (some d,w)=>(match t.get d with
  |.p p=>(match p with | .bool b=>some (b == w)|_=>some false)
  |.un=>none
  |_=>some false)
theorem wanted_eq(all:List Oper) (t:Tm) (g):wanted? all t g=wantS t (gOf all g):=by
 unfold wanted? gOf wantS
 cases g with
 |none=>rfl
 |some x=>
  obtain⟨j,w⟩:=x
  cases h:(all[j]?).bind (·.dst)with
  |none=>simp only[h]
  |some d=>simp only[h];rfl
noncomputable def put(dst:Option Tmp) (v:AV) (t:Tm):Tm:=
 match dst with
 |none=>t
 |some d=>t.set d v
theorem putK_w{n dst} (h:okDst n dst=true) (v t) (k:Tm→Option Out):putK n dst v t k=k (put dst v t):=by
 unfold putK put
 cases dst with
 |none=>rfl
 |some d=>
  simp only[okDst]at h
  simp only[h,cond,headA_eq,Tm.setK_eq]
def CS(c:Ctx) (o:Orc) (cl:Callee') (h:List Ob) (e:AEnd) (h':List Ob):Prop:=
 ∃ k0,∀ k,k0≤k→∀ (f:CR→Option Out),inner (callN c o k) cl h none f none=f (.mk e h' none)
noncomputable def callW(c:Ctx) (o:Orc) (dst:Option Tmp) (t:Tm) (h:List Ob) (d:List AD) (r:Option RM) (cl:Option Callee') (k:KP) (Q:Post):Prop:=
 match cl with
 |some cl=>(match extOf c h cl with
  |some v=>k (put dst v t) h d r
  |none=>∃ e h',CS c o cl h e h'∧(match e with
   |.ret v=>k (put dst v t) h' d r
   |.pan v=>Q (.pan v) t h' d r))
 |none=>False
noncomputable def bigW(c:Ctx) (o:Orc) (rd:Option Nat) (op:Op) (dst:Option Tmp) (t:Tm) (h:List Ob) (d:List AD) (r:Option RM) (k:KP) (Q:Post):Prop:=
 match op with
 |.call cl=>(match cl.callee with
  |.value f=>callW c o dst t h d r (target? (ev c t f) (evs c t cl.args.toList)) k Q
  |.invoke x name=>callW c o dst t h d r (invoked c name (ev c t x) (evs c t cl.args.toList)) k Q
  |.builtin b=>(match b with
   |.recover=>(match rd with
    |some _=>False
    |none=>(match r with
     |some (.pan v false)=>k (put dst v t) h d (some (.pan v true))
     |_=>k (put dst (.p .nili) t) h d r))
   |_=>False))
 |.defer cl=>(match cl.callee with
  |.value f=>(match rd with
   |some _=>False
   |none=>(match target? (ev c t f) (evs c t cl.args.toList)with
    |some (.fn g as)=>k (put dst undefA t) h (.fn g as::d) r
    |_=>False))
  |_=>False)
 |.panic x=>isFace (ev c t x)=true∧Q (.pan (ev c t x)) t h d r
 |_=>False
noncomputable def opW(c:Ctx) (o:Orc) (rd:Option Nat) (op:Op) (dst:Option Tmp) (t:Tm) (h:List Ob) (d:List AD) (r:Option RM) (v:VH) (k:KP) (Q:Post):Prop:=
 match v with
 |.w v=>k (put dst v t) h d r
 |.ws v i ob=>k (put dst v t) (hset h i ob) d r
 |.wn v ob=>k (put dst v t) (h++[ob]) d r
 |.wh v h=>k (put dst v t) h d r
 |.no=>bigW c o rd op dst t h d r k Q
noncomputable def x1(c:Ctx) (o:Orc) (rd:Option Nat) (s:SOp) (t:Tm) (h:List Ob) (d:List AD) (r:Option RM) (k:KP) (Q:Post):Prop:=
 match wantS t s.g with
 |some true=>opW c o rd s.op s.dst t h d r (opD s.op c t h) k Q
 |some false=>k (put s.dst undefA t) h d r
 |none=>False
noncomputable def xOps(c:Ctx) (o:Orc) (rd:Option Nat):List SOp→Post→KP
 | [],Q=>fun t h d r=>Q .n t h d r
 |s::l,Q=>fun t h d r=>x1 c o rd s t h d r (xOps c o rd l Q) Q
noncomputable def hoistS(c:Ctx):List (SOp×DK)→List Ob→Option (List AV×List Ob)
 | [],h=>some ([],h)
 |o::l,h=>cond (isZ o.1.op)
  (match opD o.1.op c .lf h with
   |.wn v ob=>(match hoistS c l (h++[ob])with|some (zs,h)=>some (v::zs,h)|none=>none)
   |_=>none)
  (hoistS c l h)
noncomputable def lookS'(c:Ctx) (s:SOp) (t:Tm) (h:List Ob):Option AV:=
 match wantS t s.g with
 |some true=>(match opD s.op c t h with | .w v=>some v|_=>none)
 |some false=>some undefA
 |none=>none
noncomputable def blur:Tm→List Tmp→Tm
 |t,[]=>t
 |t,d::l=>blur (t.set d .un) l
theorem blurAll_eq(t:Tm) (l):blurAll t l=blur t l:=by
 induction l generalizing t with
 |nil=>rfl
 |cons d l ih=>simp only[blurAll,blur,Tm.setK_eq,ih]
noncomputable def slotV(dst:Option Tmp) (t:Tm):AV:=match dst with|some s=>t.get s|none=>undefA
def nin(d:Nat):List Tmp→Prop
 | []=>True
 |e::l=>d ≠ e∧nin d l
def skipP:List (SOp×DK)→List Tmp→List AV→Prop
 | [],_,_=>True
 | (s,k)::l,bl,zs=>(match k with
  |.Z=>(match zs with|_::zs=>skipP l bl zs | []=>False)
  |.L _ _ _=>(match s.dst with|some d=>nin d bl∧skipP l bl zs|none=>False)
  |.A _ _=>skipP l bl zs)
def drawE(Q:Post) (l:List (SOp×DK)) (bl:List Tmp) (zs:List AV) (t:Tm):Post:=fun e _ h d r=>match e with
 |.n=>False
 |e=>skipP l bl zs∧Q e (blur t bl) h d r
noncomputable def xDraw(c:Ctx) (o:Orc) (rd:Option Nat) (Q:Post):List (SOp×DK)→Nat→List (List Ob)→List Pend→List AV→KP
 | [],_,_,_,_=>fun t h d r=>Q .n t h d r
 | (s,k)::l,m,hs,ps,zs=>fun t h d r=>(match k with
  |.Z=>(match zs with
   |v::zs=>xDraw c o rd Q l m hs ps zs (put s.dst v t) h d r
   | []=>False)
  |.L lo hi blank=>(match lookS' c s (blur t blank) h with
   |some v=>looksSame (lookS' c s (blur t blank)) v ((hs.drop 1).take (m-lo))=true ∧
     xDraw c o rd Q l m hs (cond (Nat.blt m hi) (.mk (lookS' c s (blur t blank)) v hi::ps) ps) zs (put s.dst v t) h d r
   |none=>False)
  | .A bl blank => x1 c o rd s (blur t blank) h d r (fun t' h' d' r' => pendOk (m + 1) h' ps = true ∧
    xDraw c o rd Q l (m+1) (h'::hs) ps zs (put s.dst (slotV s.dst t') t) h' d' r') (drawE Q l bl zs t))
noncomputable def xC(c:Ctx) (o:Orc) (rd:Option Nat):SC→Post→KP
 |.skip,Q=>fun t h d r=>Q .n t h d r
 |.reg l,Q=>xOps c o rd l Q
 |.draw l,Q=>fun t h d r=>(match hoistS c l h with
  |some (zs,h)=>xDraw c o rd Q l 0 [h] [] zs t h d r
  |none=>False)
 |.seq a b,Q=>xC c o rd a (fun e t h d r=>match e with
  |.n=>xC c o rd b Q t h d r
  |e=>Q e t h d r)
 |.cond x a b,Q=>fun t h d r=>(match ev c t x with
  |.p p=>(match p with
   |.bool z=>(match z with|true=>xC c o rd a Q t h d r|false=>xC c o rd b Q t h d r)
   |_=>False)
  |_=>False)
 |.block id b,Q=>xC c o rd b (fun e t h d r=>match e with
  |.exit i=>cond (Nat.beq i id) (Q .n t h d r) (Q (.exit i) t h d r)
  |e=>Q e t h d r)
 |.loop b,Q=>fun t h d r=>∃ I:Nat→KP,(∃ n,I n t h d r)∧∀ n t h d r,I n t h d r→xC c o rd b (fun e t h d r=>match e with
  |.n=>∃ m,m<n∧I m t h d r
  |e=>Q e t h d r) t h d r
 |.exit id,Q=>fun t h d r=>Q (.exit id) t h d r
 |.ret,Q=>fun t h d r=>Q .ret t h d r
 |.no,_=>fun _ _ _ _=>False
def Post.on(Q:Post):Out→Prop
 |.mk e t h d r=>Q e t h d r
def RunsK(c:Ctx) (o:Orc) (fn:FuncId) (n:Nat) (rd:Option Nat) (F:Env→K) (t:Tm) (h:List Ob) (d:List AD) (r:Option RM) (Q:Post):Prop:=
 ∃ out,(∃ k0,∀ k,k0≤k→F ⟨c,callN c o k,fn,n,rd⟩ t h d r=some out)∧Q.on out
def Runs(c:Ctx) (o:Orc) (fn:FuncId) (n:Nat) (rd:Option Nat) (b:Code) (t:Tm) (h:List Ob) (d:List AD) (r:Option RM) (Q:Post):Prop:=
 ∃ out,(∃ k0,∀ k,k0≤k→∀ j,k0≤j→exec ⟨c,callN c o k,fn,n,rd⟩ j b t h d r=some out)∧Q.on out
theorem opStep_run{c o fn n rd} (all:List Oper) (x:Oper) (hx:okDst n x.dst=true) (ih:Env→K) (kp:KP) (Q:Post)
  (hih:∀ t h d r,kp t h d r→RunsK c o fn n rd ih t h d r Q) :
  ∀ t h d r,x1 c o rd (trOp all x) t h d r kp (fun e t h d r=>Q e t h d r)→RunsK c o fn n rd (fun E=>opStep E all x (ih E)) t h d r Q:=by
 intro t h d r hw
 have key:∀ t' h' d' r',kp t' h' d' r'→∀ (F:Env→K),(∀ k,F ⟨c,callN c o k,fn,n,rd⟩ t h d r=ih ⟨c,callN c o k,fn,n,rd⟩ t' h' d' r')→RunsK c o fn n rd F t h d r Q:=by
  intro t' h' d' r' hk F hF
  obtain⟨out,⟨k0,h0⟩,hq⟩:=hih _ _ _ _ hk
  exact⟨out,⟨k0,fun k hk=>by rw[hF k];exact h0 k hk⟩,hq⟩
 unfold x1 at hw
 have hwant:=wanted_eq all t x.guard
 simp only[trOp]at hw
 split at hw
 ·rename_i e1
  rw[e1]at hwant
  have step:∀ k,opStep ⟨c,callN c o k,fn,n,rd⟩ all x (ih ⟨c,callN c o k,fn,n,rd⟩) t h d r =
    opDo ⟨c,callN c o k,fn,n,rd⟩ x.op x.dst (ih ⟨c,callN c o k,fn,n,rd⟩) t h d r (opD x.op c t h):=by
   intro k;unfold opStep;rw[hwant]
  unfold opW at hw
  split at hw
  ·rename_i v e2
   refine key _ _ _ _ hw _ fun k=>?_
   rw[step,e2];simp only[opDo];rw[putK_w hx]
  ·rename_i v i ob e2
   refine key _ _ _ _ hw _ fun k=>?_
   rw[step,e2];simp only[opDo,hsetK_eq];rw[putK_w hx]
  ·rename_i v ob e2
   refine key _ _ _ _ hw _ fun k=>?_
   rw[step,e2];simp only[opDo,lnf_eq];rw[putK_w hx]
  ·rename_i v h2 e2
   refine key _ _ _ _ hw _ fun k=>?_
   rw[step,e2];simp only[opDo];rw[putK_w hx]
  ·rename_i e2
   have step2:∀ k,opStep ⟨c,callN c o k,fn,n,rd⟩ all x (ih ⟨c,callN c o k,fn,n,rd⟩) t h d r =
     bigD x.op ⟨c,callN c o k,fn,n,rd⟩ x.dst (ih ⟨c,callN c o k,fn,n,rd⟩) t h d r:=by
    intro k;rw[step,e2];rfl
   have calls:∀ cl,callW c o x.dst t h d r cl kp (fun e t h d r=>Q e t h d r) →
     (∀ k, opStep ⟨c, callN c o k, fn, n, rd⟩ all x (ih ⟨c, callN c o k, fn, n, rd⟩) t h d r =
      callK ⟨c,callN c o k,fn,n,rd⟩ x.dst (ih ⟨c,callN c o k,fn,n,rd⟩) t h d r cl) →
     RunsK c o fn n rd (fun E=>opStep E all x (ih E)) t h d r Q:=by
    intro cl hc hs
    unfold callW at hc
    split at hc
    ·rename_i cl
     split at hc
     ·rename_i v hv
      refine key _ _ _ _ hc _ fun k=>?_
      rw[hs];simp only[callK,hv];rw[putK_w hx]
     ·rename_i hv
      obtain⟨e,h',⟨k0,hcs⟩,hc⟩:=hc
      cases e with
      |ret v=>
       obtain⟨out,⟨k1,h1⟩,hq⟩:=hih _ _ _ _ hc
       refine⟨out,⟨max k0 k1,fun k hk=>?_⟩,hq⟩
       show opStep _ all x _ t h d r=_
       rw[hs];simp only[callK,hv]
       rw[hcs k (by omega)]
       simp only[ended];rw[putK_w hx];exact h1 k (by omega)
      |pan v=>
       refine⟨_,⟨k0,fun k hk=>?_⟩,(show Post.on Q (.mk (.pan v) t h' d r)from hc)⟩
       show opStep _ all x _ t h d r=_
       rw[hs];simp only[callK,hv]
       rw[hcs k hk];rfl
    ·exact hc.elim
   unfold bigW at hw
   split at hw
   ·rename_i cl e3
    split at hw
    ·rename_i f e4
     refine calls _ hw fun k=>?_
     rw[step2,e3];simp only[bigD,e4,bCall,evsK_eq]
    ·rename_i y name e4
     refine calls _ hw fun k=>?_
     rw[step2,e3];simp only[bigD,e4,bInvoke,evsK_eq]
    ·rename_i b e4
     split at hw
     ·split at hw
      ·exact hw.elim
      ·split at hw
       ·refine key _ _ _ _ hw _ fun k=>?_
        rw[step2,e3];simp only[bigD,e4,bRecover];rw[putK_w hx]
       ·rename_i rr hr
        refine key _ _ _ _ hw _ fun k=>?_
        rw[step2,e3];simp only[bigD,e4]
        unfold bRecover
        cases r with
        |none=>simp only;rw[putK_w hx]
        |some m=>cases m with
         |ret=>simp only;rw[putK_w hx]
         |pan v b=>cases b with
          |true=>simp only;rw[putK_w hx]
          |false=>exact(hr v rfl).elim
     ·exact hw.elim
   ·rename_i cl e3
    split at hw
    ·rename_i f e4
     split at hw
     ·exact hw.elim
     ·split at hw
      ·rename_i g as e5
       refine key _ _ _ _ hw _ fun k=>?_
       rw[step2,e3];simp only[bigD,e4,bDefer,evsK_eq,e5];rw[putK_w hx]
      ·exact hw.elim
    ·exact hw.elim
   ·rename_i y e3
    obtain⟨h1,h2⟩:=hw
    refine⟨_,⟨0,fun k _=>?_⟩,(show Post.on Q (.mk (.pan (ev c t y)) t h d r)from h2)⟩
    show opStep _ all x _ t h d r=_
    rw[step2,e3];simp only[bigD,bPanic,h1,cond]
   ·exact hw.elim
 ·rename_i e1
  rw[e1]at hwant
  refine key _ _ _ _ hw _ fun k=>?_
  unfold opStep;rw[hwant];simp only;rw[putK_w hx]
 ·exact hw.elim
theorem opsRun_run{c o fn n rd} (all:List Oper) (Q:Post) (l:List Oper) (hl:okOps n (trOps all l)=true) :
  ∀ t h d r,xOps c o rd (trOps all l) Q t h d r→RunsK c o fn n rd (fun E=>opsRun E all l) t h d r Q:=by
 induction l with
 |nil=>intro t h d r hw;exact⟨.mk .n t h d r,⟨0,fun _ _=>rfl⟩,hw⟩
 |cons x l ih=>
  intro t h d r hw
  have hl':okDst n x.dst=true∧okOps n (trOps all l)=true:=by
   have:(okDst n x.dst&&okOps n (trOps all l))=true:=hl
   simpa [Bool.and_eq_true]using this
  exact opStep_run all x hl'.1 (fun E=>opsRun E all l) (xOps c o rd (trOps all l) Q) Q (ih hl'.2) t h d r hw
theorem lookV_eq(c:Ctx) (all:List Oper) (x:Oper) (t h):lookV c all x t h=lookS' c (trOp all x) t h:=by
 unfold lookV lookS'
 rw[wanted_eq];rfl
theorem kinds_len(all b):∀ (l:List Oper) i,(kinds all b l i).length=l.length:=by
 intro l
 induction l with
 |nil=>intro i;rfl
 |cons x l ih=>intro i;simp only[kinds,List.length_cons,ih]
theorem hoist_eq(c:Ctx) (all:List Oper):∀ (l:List Oper) (ks:List DK) (h:List Ob),ks.length=l.length→hoist c l h=hoistS c (trDraw all l ks) h:=by
 intro l
 induction l with
 |nil=>intro ks h _;cases ks<;>rfl
 |cons x l ih=>
  intro ks h hlen
  cases ks with
  |nil=>simp at hlen
  |cons k ks=>
   have hl:ks.length=l.length:=by simpa using hlen
   simp only[trDraw]
   unfold hoist hoistS
   simp only[trOp,lnf_eq]
   rw[ih ks h hl]
   cases isZ x.op with
   |false=>rfl
   |true=>
    simp only[cond]
    split<;>rename_i e
    ·rw[ih ks _ hl]
     split<;>rename_i e2<;>simp only[e,e2]
    ·split
     ·rename_i v ob e2;exact(e v ob e2).elim
     ·rfl
theorem callW_mono{c o dst t h d r cl} {k:KP} {Q Q':Post} (hQ:∀ e t h d r,Q e t h d r→Q' e t h d r) (hw:callW c o dst t h d r cl k Q):callW c o dst t h d r cl k Q':=by
 unfold callW at hw ⊢
 cases cl with
 |none=>exact hw
 |some cl=>
  simp only at hw ⊢
  cases hv:extOf c h cl with
  |some v=>rw[hv]at hw;exact hw
  |none=>
   rw[hv]at hw
   obtain⟨e,h',hc,hw⟩:=hw
   refine⟨e,h',hc,?_⟩
   cases e with
   |ret v=>exact hw
   |pan v=>exact hQ _ _ _ _ _ hw
theorem x1_mono{c o rd s t h d r} {k:KP} {Q Q':Post} (hQ:∀ e t h d r,Q e t h d r→Q' e t h d r) (hw:x1 c o rd s t h d r k Q):x1 c o rd s t h d r k Q':=by
 unfold x1 at hw ⊢
 split
 ·rename_i e1
  rw[e1]at hw
  simp only at hw
  unfold opW at hw ⊢
  split
  all_goals(rename_i e2;rw[e2]at hw;simp only at hw)
  any_goals exact hw
  unfold bigW at hw ⊢
  split
  ·rename_i cl e3
   simp only[e3]at hw
   split
   ·rename_i f e4;simp only[e4]at hw;exact callW_mono hQ hw
   ·rename_i y nm e4;simp only[e4]at hw;exact callW_mono hQ hw
   ·rename_i b e4;simp only[e4]at hw;exact hw
  ·rename_i cl e3
   simp only[e3]at hw
   exact hw
  ·rename_i y e3
   simp only[e3]at hw
   exact⟨hw.1,hQ _ _ _ _ _ hw.2⟩
  ·rename_i n1 n2 n3
   split at hw
   ·rename_i cl e3;exact(n1 cl e3).elim
   ·rename_i cl e3;exact(n2 cl e3).elim
   ·rename_i y e3;exact(n3 y e3).elim
   ·exact hw
 ·rename_i e1;rw[e1]at hw;exact hw
 ·rename_i e1;rw[e1]at hw;exact hw
theorem dsts_nin{f:Nat→Bool}:∀ (l:List Oper) (i k:Nat) (x:Oper) (d:Nat),l[k]?=some x→x.dst=some d→f (i+k)=true→nin d (dstsOf f l i)→False:=by
 intro l
 induction l with
 |nil=>intro i k x d h;simp at h
 |cons y l ih=>
  intro i k x d hk hd hf hn
  unfold dstsOf at hn
  have rest:nin d (dstsOf f l (i+1)):=by
   revert hn
   cases f i with
   |false=>exact id
   |true=>
    simp only[cond]
    cases y.dst with
    |none=>exact id
    |some e=>exact fun q=>q.2
  cases k with
  |zero=>
   simp only[List.getElem?_cons_zero,Option.some.injEq]at hk
   subst hk
   rw[Nat.add_zero]at hf
   rw[hf,hd]at hn
   exact hn.1 rfl
  |succ k=>
   exact ih (i+1) k x d (by simpa using hk) hd (by rw[show i+1+k=i+(k+1) by omega];exact hf) rest
theorem drawRun_dead{E:Env} {all:List Oper} {b:List Nat} {q:Nat} {out:Out}:∀ (l:List Oper) (i m:Nat) (hs:List (List Ob)) (ps:List Pend) (zs:List AV),(∃ pre,all=pre++l∧pre.length=i) →
  okDraw E.n (trDraw all l (kinds all b l i))=true→skipP (trDraw all l (kinds all b l i)) (dstsOf (fun j=>!ordered b q j) all 0) zs→∀ t h d r,
  drawRun E all b i l (kinds all b l i) m hs ps zs (some (q,out)) t h d r=some out:=by
 intro l
 induction l with
 |nil=>intro i m hs ps zs _ _ _ t h d r;rfl
 |cons x l ih=>
  intro i m hs ps zs hpre hok hsk t h d r
  obtain⟨pre,hp,hpl⟩:=hpre
  have hpre':∃ pre,all=pre++l∧pre.length=i+1:=⟨pre++[x],by rw[hp];simp,by simp [hpl]⟩
  have hok':okDst E.n x.dst=true∧okDraw E.n (trDraw all l (kinds all b l (i+1)))=true:=by
   have:(okDst E.n x.dst&&okDraw E.n (trDraw all l (kinds all b l (i+1))))=true:=hok
   simpa [Bool.and_eq_true]using this
  have hx:=hok'.1
  show drawStep E all b i x (kindOf' all b x i) (drawRun E all b (i+1) l (kinds all b l (i+1))) m hs ps zs (some (q,out)) t h d r=_
  have hsk:skipP ((trOp all x,kindOf' all b x i)::trDraw all l (kinds all b l (i+1))) (dstsOf (fun j=>!ordered b q j) all 0) zs:=hsk
  cases hk:kindOf' all b x i with
  |Z=>
   rw[hk]at hsk
   cases zs with
   |nil=>exact hsk.elim
   |cons v zs=>
    have hsk:skipP (trDraw all l (kinds all b l (i+1))) (dstsOf (fun j=>!ordered b q j) all 0) zs:=hsk
    simp only[drawStep]
    cases deadBefore b (some (q,out)) i with
    |true=>exact ih (i+1) m hs ps zs hpre' hok'.2 hsk t h d r
    |false=>
     simp only[cond]
     rw[putK_w hx]
     exact ih (i+1) m hs ps zs hpre' hok'.2 hsk _ h d r
  |L lo hi blank=>
   rw[hk]at hsk
   have hd:∃ e,x.dst=some e∧nin e (dstsOf (fun j=>!ordered b q j) all 0)∧skipP (trDraw all l (kinds all b l (i+1))) (dstsOf (fun j=>!ordered b q j) all 0) zs:=by
    have h1:(trOp all x).dst=x.dst:=rfl
    unfold skipP at hsk
    simp only[h1]at hsk
    cases hde:x.dst with
    |none=>rw[hde]at hsk;exact hsk.elim
    |some e=>rw[hde]at hsk;exact⟨e,rfl,hsk.1,hsk.2⟩
   obtain⟨e,he,hn,hsk⟩:=hd
   have hord:ordered b q i=true:=by
    cases ho:ordered b q i with
    |true=>rfl
    |false=>
     refine(dsts_nin all 0 i x e ?_ he (by rw[Nat.zero_add,ho];rfl) hn).elim
     rw[hp,List.getElem?_append_right (by omega),hpl,Nat.sub_self];rfl
   simp only[drawStep,deadBefore,hord,cond]
   exact ih (i+1) m hs ps zs hpre' hok'.2 hsk t h d r
  |A bl blank=>
   rw[hk]at hsk
   exact ih (i+1) m hs ps zs hpre' hok'.2 hsk t h d r
theorem drawRun_run{c o fn n rd} (all:List Oper) (b:List Nat) (Q:Post):∀ (l:List Oper) (i m:Nat) (hs:List (List Ob)) (ps:List Pend) (zs:List AV),(∃ pre,all=pre++l∧pre.length=i) →
  okDraw n (trDraw all l (kinds all b l i))=true→∀ t h d r,xDraw c o rd Q (trDraw all l (kinds all b l i)) m hs ps zs t h d r →
  RunsK c o fn n rd (fun E=>drawRun E all b i l (kinds all b l i) m hs ps zs none) t h d r Q:=by
 intro l
 induction l with
 |nil=>intro i m hs ps zs _ _ t h d r hw;exact⟨.mk .n t h d r,⟨0,fun _ _=>rfl⟩,hw⟩
 |cons x l ih=>
  intro i m hs ps zs hpre hok t h d r hw
  obtain⟨pre,hp,hi⟩:=hpre
  have hpre':∃ pre,all=pre++l∧pre.length=i+1:=⟨pre++[x],by rw[hp];simp,by simp [hi]⟩
  have hok:okDraw n ((trOp all x,kindOf' all b x i)::trDraw all l (kinds all b l (i+1)))=true:=hok
  have hw:xDraw c o rd Q ((trOp all x,kindOf' all b x i)::trDraw all l (kinds all b l (i+1))) m hs ps zs t h d r:=hw
  show RunsK c o fn n rd (fun E=>drawRun E all b i (x::l) (kindOf' all b x i::kinds all b l (i+1)) m hs ps zs none) t h d r Q
  generalize hkk:kindOf' all b x i=k at *
  ·have hkd:∀ bl blank,k=.A bl blank→bl=dstsOf (fun j=>!ordered b i j) all 0:=fun bl blank e=>by
    rw[e]at hkk
    unfold kindOf' at hkk
    cases hz:isZ x.op<;>cases hl:isL x.op<;>rw[hz]at hkk<;>simp only[hl,cond]at hkk<;>cases hkk
    rfl
   have hok':okDst n x.dst=true∧okDraw n (trDraw all l (kinds all b l (i+1)))=true:=by
    have:(okDst n x.dst&&okDraw n (trDraw all l (kinds all b l (i+1))))=true:=hok
    simpa [Bool.and_eq_true]using this
   have hx:=hok'.1
   have key:∀ m' hs' ps' zs' t' h' d' r',xDraw c o rd Q (trDraw all l (kinds all b l (i+1))) m' hs' ps' zs' t' h' d' r' →
     ∀ k0,(∀ k,k0≤k→drawStep ⟨c,callN c o k,fn,n,rd⟩ all b i x ‹DK› (drawRun ⟨c,callN c o k,fn,n,rd⟩ all b (i+1) l (kinds all b l (i+1))) m hs ps zs none t h d r=drawRun ⟨c,callN c o k,fn,n,rd⟩ all b (i+1) l (kinds all b l (i+1)) m' hs' ps' zs' none t' h' d' r') →
     RunsK c o fn n rd (fun E=>drawRun E all b i (x::l) (k::kinds all b l (i+1)) m hs ps zs none) t h d r Q:=by
    intro m' hs' ps' zs' t' h' d' r' hk k0 hF
    obtain⟨out,⟨k1,h1⟩,hq⟩:=ih (i+1) m' hs' ps' zs' hpre' hok'.2 t' h' d' r' hk
    exact⟨out,⟨max k0 k1,fun k hk=>(hF k (by omega)).trans (h1 k (by omega))⟩,hq⟩
   cases k with
   |Z=>
    cases zs with
    |nil=>exact hw.elim
    |cons v zs=>
     refine key _ _ _ _ _ _ _ _ hw 0 fun k _=>?_
     simp only[drawStep,deadBefore,cond]
     rw[putK_w hx];rfl
   |L lo hi blank=>
    simp only[xDraw]at hw
    split at hw
    ·rename_i v e1
     refine key _ _ _ _ _ _ _ _ hw.2 0 fun k _=>?_
     have hl:=hw.1
     have e:lookV c all x (blurAll t blank)=lookS' c (trOp all x) (blur t blank):=by
      funext h;rw[lookV_eq,blurAll_eq]
     simp only[drawStep,deadBefore,cond,e]
     rw[e1];simp only
     rw[hl];simp only
     rw[putK_w hx];rfl
    ·exact hw.elim
   |A bl blank=>
    simp only[xDraw]at hw
    obtain⟨out,⟨k0,h0⟩,hq⟩:=opStep_run (c:=c) (o:=o) (fn:=fn) (n:=n) (rd:=rd) all x hx (fun _ t h d r=>some (.mk .n t h d r)) _
     (fun e t' h' d' r'=>(e=.n∧pendOk (m+1) h' ps=true∧xDraw c o rd Q (trDraw all l (kinds all b l (i+1))) (m+1) (h'::hs) ps zs (put x.dst (slotV x.dst t') t) h' d' r')∨(e ≠ .n∧skipP (trDraw all l (kinds all b l (i+1))) bl zs∧Q e (blur t bl) h' d' r'))
     (fun t' h' d' r' hk=>⟨.mk .n t' h' d' r',⟨0,fun _ _=>rfl⟩,.inl ⟨rfl,hk⟩⟩) (blur t blank) h d r (by
      refine x1_mono ?_ hw
      intro e t' h' d' r' hf
      unfold drawE at hf
      cases e with
      |n=>exact hf.elim
      |_=>exact .inr ⟨(by intro q;cases q),hf.1,hf.2⟩)
    obtain⟨e,t',h',d',r'⟩:=out
    rcases hq with⟨he,hp,hq⟩|⟨he,htr,hq⟩
    ·subst he
     refine key _ _ _ _ _ _ _ _ hq k0 fun k hk=>?_
     have hh:opStep ⟨c,callN c o k,fn,n,rd⟩ all x (fun t h d r=>some (.mk .n t h d r)) (blur t blank) h d r=_:=h0 k hk
     simp only[drawStep]
     rw[blurAll_eq,hh]
     simp only[actK,hp,cond]
     rw[putK_w hx];rfl
    ·refine⟨.mk e (blur t bl) h' d' r',⟨k0,fun k hk=>?_⟩,hq⟩
     have hh:opStep ⟨c,callN c o k,fn,n,rd⟩ all x (fun t h d r=>some (.mk .n t h d r)) (blur t blank) h d r=_:=h0 k hk
     show drawStep ⟨c,callN c o k,fn,n,rd⟩ all b i x (.A bl blank) (drawRun ⟨c,callN c o k,fn,n,rd⟩ all b (i+1) l (kinds all b l (i+1))) m hs ps zs none t h d r=_
     simp only[drawStep]
     rw[blurAll_eq,hh]
     rw[show actK ⟨c,callN c o k,fn,n,rd⟩ i x.dst bl m hs ps zs t h d r (drawRun ⟨c,callN c o k,fn,n,rd⟩ all b (i+1) l (kinds all b l (i+1))) (some (.mk e t' h' d' r'))=drawRun ⟨c,callN c o k,fn,n,rd⟩ all b (i+1) l (kinds all b l (i+1)) m hs ps zs (some (i,.mk e (blurAll t bl) h' d' r')) t h d r by
      cases e with
      |n=>exact absurd rfl he
      |_=>rfl]
     rw[blurAll_eq]
     have hbl:=hkd bl blank rfl
     rw[hbl]at htr
     exact drawRun_dead l (i+1) m hs ps zs hpre' hok'.2 htr t h d r
theorem drawReg_run{c o fn n rd} (ops:List Oper) (Q:Post) (di:DI) (hdi:drawInfo ops=some di)
  (hok:okDraw n (trDraw ops ops di.ks)=true):∀ t h d r,xC c o rd (.draw (trDraw ops ops di.ks)) Q t h d r →
  RunsK c o fn n rd (fun E=>drawReg E ops (drawInfo ops)) t h d r Q:=by
 intro t h d r hw
 have hlen:di.ks.length=ops.length:=by
  unfold drawInfo at hdi
  simp only at hdi
  revert hdi
  cases pairsOk ops (befores ops []) ops 0 with
  |false=>intro hdi;cases hdi
  |true=>intro hdi;cases hdi;exact kinds_len _ _ _ _
 obtain⟨b,ks⟩:=di
 have hks:ks=kinds ops b ops 0:=by
  unfold drawInfo at hdi
  simp only at hdi
  revert hdi
  cases pairsOk ops (befores ops []) ops 0 with
  |false=>intro hdi;cases hdi
  |true=>intro hdi;cases hdi;rfl
 subst hks
 simp only[xC]at hw
 rw[← hoist_eq c ops ops (kinds ops b ops 0) h hlen]at hw
 split at hw
 ·rename_i zs h1 e1
  obtain⟨out,⟨k0,h0⟩,hq⟩:=drawRun_run (c:=c) (o:=o) (fn:=fn) (n:=n) (rd:=rd) ops b Q ops 0 0 [h1] [] zs ⟨[],rfl,rfl⟩ hok t h1 d r hw
  refine⟨out,⟨k0,fun k hk=>?_⟩,hq⟩
  show drawReg _ ops (drawInfo ops) t h d r=_
  unfold drawReg
  rw[hdi];simp only
  rw[e1];exact h0 k hk
 ·exact hw.elim
theorem runs_of{c o fn n rd} {b:Code} {F:Env→K} {t h d r Q} (H:RunsK c o fn n rd F t h d r Q)
  (hF:∀ E ih,codeD b E ih t h d r=F E t h d r):Runs c o fn n rd b t h d r Q:=by
 obtain⟨out,⟨k0,h0⟩,hq⟩:=H
 refine⟨out,⟨k0+1,fun k hk j hj=>?_⟩,hq⟩
 obtain⟨j,rfl⟩:∃ i,j=i+1:=⟨j-1,by omega⟩
 show codeD b _ (exec _ j) t h d r=_
 rw[hF];exact h0 k (by omega)
theorem runs_step{c o fn n rd} {b:Code} {t h d r} {out:Out} {Q:Post}
  (H:∃ k0,∀ k,k0≤k→∀ j,k0≤j→codeD b ⟨c,callN c o k,fn,n,rd⟩ (exec ⟨c,callN c o k,fn,n,rd⟩ j) t h d r=some out) (hq:Q.on out):Runs c o fn n rd b t h d r Q:=by
 obtain⟨k0,h0⟩:=H
 refine⟨out,⟨k0+1,fun k hk j hj=>?_⟩,hq⟩
 obtain⟨j,rfl⟩:∃ i,j=i+1:=⟨j-1,by omega⟩
 exact h0 k (by omega) j (by omega)
theorem xC_ok{c o fn n rd}:∀ (b:Code) (Q:Post),okS n (tr b)=true→∀ t h d r,xC c o rd (tr b) Q t h d r→Runs c o fn n rd b t h d r Q:=by
 intro b
 induction b with
 |skip=>intro Q _ t h d r hw;exact⟨.mk .n t h d r,⟨1,fun k _ j hj=>by obtain⟨j,rfl⟩:∃ i,j=i+1:=⟨j-1,by omega⟩;rfl⟩,hw⟩
 |label l=>intro Q _ t h d r hw;exact⟨.mk .n t h d r,⟨1,fun k _ j hj=>by obtain⟨j,rfl⟩:∃ i,j=i+1:=⟨j-1,by omega⟩;rfl⟩,hw⟩
 |region i ops draw=>
  intro Q hok t h d r hw
  cases draw with
  |false=>exact runs_of (opsRun_run ops.toList Q ops.toList hok t h d r hw) fun E ih=>rfl
  |true=>
   simp only[tr]at hok hw
   cases hdi:drawInfo ops.toList with
   |none=>rw[hdi]at hw;exact hw.elim
   |some di=>
    rw[hdi]at hw hok
    exact runs_of (drawReg_run ops.toList Q di hdi hok t h d r hw) fun E ih=>rfl
 |seq a b iha ihb=>
  intro Q hok t h d r hw
  have hok':okS n (tr a)=true∧okS n (tr b)=true:=by
   have:(okS n (tr a)&&okS n (tr b))=true:=hok
   simpa [Bool.and_eq_true]using this
  obtain⟨out,⟨k0,h0⟩,hq⟩:=iha _ hok'.1 t h d r hw
  obtain⟨e,t',h',d',r'⟩:=out
  cases e with
  |n=>
   obtain⟨out,⟨k1,h1⟩,hq⟩:=ihb Q hok'.2 t' h' d' r' hq
   refine runs_step ⟨max k0 k1,fun k hk j hj=>?_⟩ hq
   show seqK (exec _ j a t h d r) (exec _ j b)=_
   rw[h0 k (by omega) j (by omega)]
   exact h1 k (by omega) j (by omega)
  |exit i=>exact runs_step (out:=.mk (.exit i) t' h' d' r') ⟨k0,fun k hk j hj=>by show seqK (exec _ j a t h d r) (exec _ j b)=_;rw[h0 k hk j hj];rfl⟩ hq
  |ret=>exact runs_step (out:=.mk .ret t' h' d' r') ⟨k0,fun k hk j hj=>by show seqK (exec _ j a t h d r) (exec _ j b)=_;rw[h0 k hk j hj];rfl⟩ hq
  |pan v=>exact runs_step (out:=.mk (.pan v) t' h' d' r') ⟨k0,fun k hk j hj=>by show seqK (exec _ j a t h d r) (exec _ j b)=_;rw[h0 k hk j hj];rfl⟩ hq
 |cond x a b iha ihb=>
  intro Q hok t h d r hw
  have hok':okS n (tr a)=true∧okS n (tr b)=true:=by
   have:(okS n (tr a)&&okS n (tr b))=true:=hok
   simpa [Bool.and_eq_true]using this
  simp only[tr,xC]at hw
  split at hw
  ·rename_i p e1
   split at hw
   ·rename_i z
    cases z with
    |true=>
     obtain⟨out,⟨k0,h0⟩,hq⟩:=iha Q hok'.1 t h d r hw
     exact runs_step ⟨k0,fun k hk j hj=>by show cCond x a b _ _ t h d r=_;unfold cCond;rw[e1];exact h0 k hk j hj⟩ hq
    |false=>
     obtain⟨out,⟨k0,h0⟩,hq⟩:=ihb Q hok'.2 t h d r hw
     exact runs_step ⟨k0,fun k hk j hj=>by show cCond x a b _ _ t h d r=_;unfold cCond;rw[e1];exact h0 k hk j hj⟩ hq
   ·exact hw.elim
  ·exact hw.elim
 |block id b ih=>
  intro Q hok t h d r hw
  obtain⟨out,⟨k0,h0⟩,hq⟩:=ih _ hok t h d r hw
  obtain⟨e,t',h',d',r'⟩:=out
  have st:∀ out',(match(Out.mk e t' h' d' r')with | .mk e t h d r=>(match e with
    |.exit i=>cond (Nat.beq i id) (some (Out.mk .n t h d r)) (some (.mk (.exit i) t h d r))
    |e=>some (.mk e t h d r)))=some out'→∃ k0,∀ k,k0≤k→∀ j,k0≤j→codeD (.block id b) ⟨c,callN c o k,fn,n,rd⟩ (exec ⟨c,callN c o k,fn,n,rd⟩ j) t h d r=some out':=by
   intro out' ho
   refine⟨k0,fun k hk j hj=>?_⟩
   show cBlock id b ⟨c,callN c o k,fn,n,rd⟩ (exec ⟨c,callN c o k,fn,n,rd⟩ j) t h d r=_
   unfold cBlock
   rw[h0 k hk j hj];exact ho
  cases e with
  |n=>exact runs_step (st _ rfl) hq
  |ret=>exact runs_step (st _ rfl) hq
  |pan v=>exact runs_step (st _ rfl) hq
  |exit i=>
   have hq':(cond (Nat.beq i id) (Q .n t' h' d' r') (Q (.exit i) t' h' d' r'):Prop):=hq
   cases hb:Nat.beq i id with
   |true=>rw[hb]at hq';exact runs_step (out:=.mk .n t' h' d' r') (st _ (by simp only[hb,cond])) hq'
   |false=>rw[hb]at hq';exact runs_step (out:=.mk (.exit i) t' h' d' r') (st _ (by simp only[hb,cond])) hq'
 |loop b ih=>
  intro Q hok t h d r hw
  obtain⟨I,⟨m,hm⟩,hI⟩:=hw
  induction m using Nat.strongRecOn generalizing t h d r with
  |_ m ihm=>
   obtain⟨out,⟨k0,h0⟩,hq⟩:=ih _ hok t h d r (hI m t h d r hm)
   obtain⟨e,t',h',d',r'⟩:=out
   cases e with
   |n=>
    obtain⟨m',hlt,hm'⟩:=hq
    obtain⟨out,⟨k1,h1⟩,hq⟩:=ihm m' hlt t' h' d' r' hm'
    refine runs_step ⟨max k0 k1,fun k hk j hj=>?_⟩ hq
    show seqK (exec _ j b t h d r) (exec _ j (.loop b))=_
    rw[h0 k (by omega) j (by omega)]
    exact h1 k (by omega) j (by omega)
   |exit i=>exact runs_step (out:=.mk (.exit i) t' h' d' r') ⟨k0,fun k hk j hj=>by show seqK (exec _ j b t h d r) (exec _ j (.loop b))=_;rw[h0 k hk j hj];rfl⟩ hq
   |ret=>exact runs_step (out:=.mk (.ret) t' h' d' r') ⟨k0,fun k hk j hj=>by show seqK (exec _ j b t h d r) (exec _ j (.loop b))=_;rw[h0 k hk j hj];rfl⟩ hq
   |pan v=>exact runs_step (out:=.mk (.pan v) t' h' d' r') ⟨k0,fun k hk j hj=>by show seqK (exec _ j b t h d r) (exec _ j (.loop b))=_;rw[h0 k hk j hj];rfl⟩ hq
 |rangeFunc f ps a b iha ihb=>intro Q _ t h d r hw;exact hw.elim
 |exit id=>intro Q _ t h d r hw;exact⟨.mk (.exit id) t h d r,⟨1,fun k _ j hj=>by obtain⟨j,rfl⟩:∃ i,j=i+1:=⟨j-1,by omega⟩;rfl⟩,hw⟩
 |scope b ih=>
  intro Q hok t h d r hw
  obtain⟨out,⟨k0,h0⟩,hq⟩:=ih Q hok t h d r hw
  exact runs_step ⟨k0,fun k hk j hj=>h0 k hk j hj⟩ hq
 |ret=>intro Q _ t h d r hw;exact⟨.mk .ret t h d r,⟨1,fun k _ j hj=>by obtain⟨j,rfl⟩:∃ i,j=i+1:=⟨j-1,by omega⟩;rfl⟩,hw⟩
 |goto l=>intro Q _ t h d r hw;exact hw.elim
 |refuse m=>intro Q _ t h d r hw;exact hw.elim
noncomputable def argT:List AV→Nat→Tm→Tm
 | [],_,t=>t
 |v::l,i,t=>argT l (i+1) (t.set i v)
theorem argTm_eq{R:Type}:∀ (l:List AV) (i:Nat) (t:Tm) (f:Tm→R),argTm l i t f=f (argT l i t):=by
 intro l
 induction l with
 |nil=>intro i t f;rfl
 |cons v l ih=>intro i t f;simp only[argTm,argT,Tm.setK_eq,ih]
def Ct(c:Ctx) (o:Orc) (cl:Callee') (h:List Ob) (P:AEnd→List Ob→Prop):Prop:=
 ∃ e h',(∃ k0,∀ k,k0≤k→callN c o k cl h none=some (.mk e h' none))∧P e h'
def vals:List AV→AV
 | [v]=>v
 |vs=>.tup vs
noncomputable def endP(c:Ctx) (rs:List ResultVar) (P:AEnd→List Ob→Prop):Post:=fun e t h d r=>
 d=[]∧r=none∧(match e with
 |.pan v=>P (.pan v) h
 |.exit _=>False
 |_=>(match results? c h t rs with
  |some vs=>P (.ret (vals vs)) h
  |none=>False))
theorem leave_nil{c call rs t h vs} (hr:results? c h t rs=some vs):leave c call rs t none [] .ret h=some (.mk (.ret (vals vs)) h none):=by
 unfold leave
 simp only[hr]
 cases vs with
 |nil=>rfl
 |cons v l=>cases l<;>rfl
theorem ct_wp{c o f fn b args h P} (hf:c.fn f=some fn) (hb:fn.body=some b) (ho:o f args h=none) (ha:Nat.ble args.length fn.ntmps=true) (hok:okS fn.ntmps (tr b)=true)
  (hw:xC c o none (tr b) (endP c fn.results.toList P) (argT args 0 .lf) h [] none):Ct c o (.fn f args) h P:=by
 obtain⟨out,⟨k0,h0⟩,hq⟩:=xC_ok (fn:=f) b _ hok _ _ _ _ hw
 have st:∀ k,callN c o (k+1) (.fn f args) h none=callEnd c (callN c o k) fn (exec ⟨c,callN c o k,f,fn.ntmps,none⟩ k b (argT args 0 .lf) h [] none):=by
  intro k
  show callFn c o k (callN c o k) f args h none=_
  unfold callFn
  simp only[ho,hf]
  unfold callBody
  simp only[hb,ha,cond,argTm_eq]
 obtain⟨e,t',h',d',r'⟩:=out
 obtain⟨hd,hr,hq⟩:=hq
 subst hd;subst hr
 cases e with
 |exit i=>exact hq.elim
 |pan v=>
  refine⟨.pan v,h',⟨k0+1,fun k hk=>?_⟩,hq⟩
  obtain⟨k,rfl⟩:∃ i,k=i+1:=⟨k-1,by omega⟩
  rw[st,h0 k (by omega) k (by omega)];rfl
 |n=>
  simp only at hq
  split at hq
  ·rename_i vs hvs
   refine⟨.ret (vals vs),h',⟨k0+1,fun k hk=>?_⟩,hq⟩
   obtain⟨k,rfl⟩:∃ i,k=i+1:=⟨k-1,by omega⟩
   rw[st,h0 k (by omega) k (by omega)]
   exact leave_nil (call:=callN c o k) hvs
  ·exact hq.elim
 |ret=>
  simp only at hq
  split at hq
  ·rename_i vs hvs
   refine⟨.ret (vals vs),h',⟨k0+1,fun k hk=>?_⟩,hq⟩
   obtain⟨k,rfl⟩:∃ i,k=i+1:=⟨k-1,by omega⟩
   rw[st,h0 k (by omega) k (by omega)]
   exact leave_nil (call:=callN c o k) hvs
  ·exact hq.elim
section
variable {c:Ctx} {o:Orc} {rd:Option Nat} {Q:Post} {t:Tm} {h:List Ob} {d:List AD} {r:Option RM} {k:KP} {l:List SOp}
theorem xC_skip:xC c o rd .skip Q t h d r=Q .n t h d r:=(rfl)
theorem xC_reg:xC c o rd (.reg l) Q t h d r=xOps c o rd l Q t h d r:=(rfl)
noncomputable def seqP(c:Ctx) (o:Orc) (rd:Option Nat) (b:SC) (Q:Post):Post:=fun e t h d r=>match e with
 |.n=>xC c o rd b Q t h d r
 |e=>Q e t h d r
theorem xC_seq{a b}:xC c o rd (.seq a b) Q t h d r=xC c o rd a (seqP c o rd b Q) t h d r:=(rfl)
theorem seqP_n{b}:seqP c o rd b Q .n t h d r=xC c o rd b Q t h d r:=(rfl)
theorem seqP_ret{b}:seqP c o rd b Q .ret t h d r=Q .ret t h d r:=(rfl)
theorem seqP_pan{b v}:seqP c o rd b Q (.pan v) t h d r=Q (.pan v) t h d r:=(rfl)
theorem seqP_exit{b i}:seqP c o rd b Q (.exit i) t h d r=Q (.exit i) t h d r:=(rfl)
def condW(v:AV) (A B:Prop):Prop:=match v with
 |.p p=>(match p with
  |.bool z=>(match z with|true=>A|false=>B)
  |_=>False)
 |_=>False
theorem xC_cond{x a b}:xC c o rd (.cond x a b) Q t h d r=condW (ev c t x) (xC c o rd a Q t h d r) (xC c o rd b Q t h d r):=(rfl)
@[congr] theorem condW_congr{v v':AV} {A B} (hv:v=v'):condW v A B=condW v' A B:=by rw[hv]
theorem condW_true{A B}:condW (.p (.bool true)) A B=A:=(rfl)
theorem condW_false{A B}:condW (.p (.bool false)) A B=B:=(rfl)
noncomputable def blockP(id:Nat) (Q:Post):Post:=fun e t h d r=>match e with
 |.exit i=>cond (Nat.beq i id) (Q .n t h d r) (Q (.exit i) t h d r)
 |e=>Q e t h d r
theorem xC_block{id b}:xC c o rd (.block id b) Q t h d r=xC c o rd b (blockP id Q) t h d r:=(rfl)
theorem blockP_n{id}:blockP id Q .n t h d r=Q .n t h d r:=(rfl)
theorem blockP_ret{id}:blockP id Q .ret t h d r=Q .ret t h d r:=(rfl)
theorem blockP_pan{id v}:blockP id Q (.pan v) t h d r=Q (.pan v) t h d r:=(rfl)
theorem blockP_exit{id i}:blockP id Q (.exit i) t h d r=if i=id then Q .n t h d r else Q (.exit i) t h d r:=by
 show cond (Nat.beq i id) _ _=_
 by_cases e:i=id
 ·subst e;simp
 ·rw[if_neg e,show Nat.beq i id=false from Bool.eq_false_iff.2 fun q=>e (Nat.eq_of_beq_eq_true q)];rfl
noncomputable def loopP(Q:Post) (n:Nat) (I:Nat→KP):Post:=fun e t h d r=>match e with
 |.n=>∃ m,m<n∧I m t h d r
 |e=>Q e t h d r
theorem xC_loop{b} (I:Nat→KP) (n:Nat) (h0:I n t h d r) (hI:∀ n t h d r,I n t h d r→xC c o rd b (loopP Q n I) t h d r):xC c o rd (.loop b) Q t h d r:=⟨I,⟨n,h0⟩,hI⟩
theorem loopP_n{n I}:loopP Q n I .n t h d r = ∃ m,m<n∧I m t h d r:=(rfl)
theorem loopP_ret{n I}:loopP Q n I .ret t h d r=Q .ret t h d r:=(rfl)
theorem loopP_pan{n I v}:loopP Q n I (.pan v) t h d r=Q (.pan v) t h d r:=(rfl)
theorem loopP_exit{n I i}:loopP Q n I (.exit i) t h d r=Q (.exit i) t h d r:=(rfl)
theorem xC_exit{i}:xC c o rd (.exit i) Q t h d r=Q (.exit i) t h d r:=(rfl)
theorem xC_ret:xC c o rd .ret Q t h d r=Q .ret t h d r:=(rfl)
theorem xOps_nil:xOps c o rd [] Q t h d r=Q .n t h d r:=(rfl)
theorem xOps_cons{op dst}:xOps c o rd (⟨none,op,dst⟩::l) Q t h d r=opW c o rd op dst t h d r (opD op c t h) (xOps c o rd l Q) Q:=(rfl)
def gW(v:AV) (w:Bool) (A B:Prop):Prop:=match v with
 |.p p=>(match p with | .bool b=>if b=w then A else B|_=>B)
 |.un=>False
 |_=>B
theorem xOps_guard{s w op dst}:xOps c o rd (⟨some (some s,w),op,dst⟩::l) Q t h d r =
  gW (t.get s) w (opW c o rd op dst t h d r (opD op c t h) (xOps c o rd l Q) Q) (xOps c o rd l Q (put dst undefA t) h d r):=by
 show x1 c o rd _ t h d r _ Q=_
 unfold x1 wantS gW
 simp only
 split
 ·rename_i e
  cases hv:t.get s with
  |p v=>
   rw[hv]at e
   cases v with
   |bool b=>
    have:(b == w)=true:=Option.some.inj e
    have:b=w:=by simpa using this
    simp [this]
   |_=>simp only[Option.some.injEq,Bool.false_eq_true]at e
  |un=>rw[hv]at e;cases e
  |_=>rw[hv]at e;simp only[Option.some.injEq,Bool.false_eq_true]at e
 ·rename_i e
  cases hv:t.get s with
  |p v=>
   rw[hv]at e
   cases v with
   |bool b=>
    have:(b == w)=false:=Option.some.inj e
    have:b ≠ w:=by simpa using this
    simp [this]
   |_=>rfl
  |un=>rw[hv]at e;cases e
  |_=>rfl
 ·rename_i e
  cases hv:t.get s with
  |p v=>rw[hv]at e;cases v<;>cases e
  |un=>rfl
  |_=>rw[hv]at e;cases e
@[congr] theorem gW_congr{v v':AV} {w A B} (hv:v=v'):gW v w A B=gW v' w A B:=by rw[hv]
theorem gW_tt{A B}:gW (.p (.bool true)) true A B=A:=(rfl)
theorem gW_tf{A B}:gW (.p (.bool true)) false A B=B:=(rfl)
theorem gW_ft{A B}:gW (.p (.bool false)) true A B=B:=(rfl)
theorem gW_ff{A B}:gW (.p (.bool false)) false A B=A:=(rfl)
theorem gW_un{w A B}:gW undefA w A B=B:=(rfl)
@[congr] theorem opW_congr{op dst} {v v':VH} (hv:v=v'):opW c o rd op dst t h d r v k Q=opW c o rd op dst t h d r v' k Q:=by rw[hv]
@[congr] theorem callW_congr{dst} {cl cl':Option Callee'} (hv:cl=cl'):callW c o dst t h d r cl k Q=callW c o dst t h d r cl' k Q:=by rw[hv]
theorem opW_w{op dst v}:opW c o rd op dst t h d r (.w v) k Q=k (put dst v t) h d r:=(rfl)
theorem opW_ws{op dst v i ob}:opW c o rd op dst t h d r (.ws v i ob) k Q=k (put dst v t) (hset h i ob) d r:=(rfl)
theorem opW_wn{op dst v ob}:opW c o rd op dst t h d r (.wn v ob) k Q=k (put dst v t) (h++[ob]) d r:=(rfl)
theorem opW_wh{op dst v h'}:opW c o rd op dst t h d r (.wh v h') k Q=k (put dst v t) h' d r:=(rfl)
theorem opW_value{f as tys dst}:opW c o rd (.call {callee:=.value f,args:=as,argTypes:=tys}) dst t h d r (opD (.call {callee:=.value f,args:=as,argTypes:=tys}) c t h) k Q =
  callW c o dst t h d r (target? (ev c t f) (evs c t as.toList)) k Q:=(rfl)
theorem opW_panic{x dst}:opW c o rd (.panic x) dst t h d r (opD (.panic x) c t h) k Q=(isFace (ev c t x)=true∧Q (.pan (ev c t x)) t h d r):=(rfl)
theorem put_some{s v}:put (some s) v t=t.set s v:=(rfl)
theorem put_none{v}:put none v t=t:=(rfl)
theorem target_fn{g as}:target? (.p (.fn g)) as=some (.fn g as):=(rfl)
theorem ev_tmp{i}:ev c t (.tmp i)=t.get i:=(rfl)
theorem ev_func{f}:ev c t (.func f)=.p (.fn f):=(rfl)
theorem ev_int{j n}:ev c t (.const (.int j n))=.p (.int j n):=(rfl)
theorem ev_bool{b}:ev c t (.const (.bool b))=.p (.bool b):=(rfl)
theorem ev_str{s}:ev c t (.const (.string (ByteArray.mk s)))=.p (.str s.toList):=(rfl)
theorem ev_nils:ev c t (.const (.slice none 0 0))=.p .nils:=(rfl)
theorem ev_nilp:ev c t (.const (.pointer none))=.p .nilp:=(rfl)
theorem ev_nili:ev c t (.const .nilIface)=.p .nili:=(rfl)
theorem ev_nilf:ev c t (.const .nilFunc)=.p .nilf:=(rfl)
theorem evs_nil:evs c t []=[]:=(rfl)
theorem evs_cons{x l}:evs c t (x::l)=ev c t x::evs c t l:=(rfl)
theorem evp_nil:evp c t []=[]:=(rfl)
theorem evp_cons{i x l}:evp c t ((i,x)::l)=(i,ev c t x)::evp c t l:=(rfl)
theorem evo_none:evo c t none=none:=(rfl)
theorem evo_some{x}:evo c t (some x)=some (ev c t x):=(rfl)
theorem opD_move{x}:opD (.move x) c t h=.w (ev c t x):=(rfl)
theorem opD_assign{x}:opD (.assign x) c t h=.w (ev c t x):=(rfl)
def pickW(k a b:AV):VH:=match k with
 |.p p=>(match p with | .bool z=>.w (cond z a b)|_=>.no)
 |_=>.no
theorem opD_pick{x a b}:opD (.pick x a b) c t h=pickW (ev c t x) (ev c t a) (ev c t b):=(rfl)
theorem pickW_true{a b}:pickW (.p (.bool true)) a b=.w a:=(rfl)
theorem pickW_false{a b}:pickW (.p (.bool false)) a b=.w b:=(rfl)
theorem pickW_bool{z x y}:pickW (.p (.bool z)) (.p (.bool x)) (.p (.bool y))=.w (.p (.bool (cond z x y))):=by cases z<;>rfl
theorem opD_bin{op ty x y yt}:opD (.binOp op ty x y yt) c t h=bin3 op c ty (isConst x || isConst y) (ev c t x) (ev c t y):=(rfl)
theorem opD_not{ty x}:opD (.unOp .not ty x) c t h=un1 .not (ev c t x):=(rfl)
theorem opD_conv{s dd x}:opD (.convert s dd x) c t h=conv3 c h s dd (ev c t x):=(rfl)
theorem opD_load{ty a}:opD (.load ty a) c t h=.ofO (load? c h ty (ev c t a)):=(rfl)
theorem opD_store{ty a v}:opD (.store ty a v) c t h=store? c h ty (ev c t a) (ev c t v):=(rfl)
theorem opD_indexAddr{ty x i}:opD (.indexAddr ty x i) c t h=.ofO (indexAddr? c ty (ev c t x) (ev c t i)):=(rfl)
theorem opD_index{ty x i}:opD (.index ty x i) c t h=.ofO (index? c ty (ev c t x) (ev c t i)):=(rfl)
theorem opD_fieldAddr{ty x i}:opD (.fieldAddr ty x i) c t h=.ofO (fieldAddr? c ty (ev c t x) i):=(rfl)
theorem opD_field{ty x i}:opD (.field ty x i) c t h=.ofO (field? c ty (ev c t x) i):=(rfl)
noncomputable def extractW(v:AV) (i:Nat):VH:=match v with | .tup vs=>.ofO (aget vs i)|_=>.no
theorem opD_extract{x i}:opD (.extract x i) c t h=extractW (ev c t x) i:=(rfl)
theorem opD_alloc{el}:opD (.alloc el) c t h=(match zero? c el with|some z=>.wn (.ptr h.length 0) (.cells el (z.cells.map .p))|none=>.no):=by
 show(match zero? c el with|some z=>forceN h.length fun n=>lnf (z.cells.map AV.p) fun cs=>VH.wn (.ptr n 0) (.cells el cs)|none=>.no)=_
 simp only[forceN_eq,lnf_eq]
theorem opD_buildSlice{ty n ps}:opD (.buildSlice ty n ps) c t h=buildSlice? c h ty n (evp c t ps.toList):=(rfl)
theorem opD_build{ty ps}:opD (.build ty ps) c t h=.ofO (build? c ty (evp c t ps.toList)):=(rfl)
theorem ofO_some{v}:VH.ofO (some v)=.w v:=(rfl)
theorem resB_eq(b:Bool):resB b=.w (.p (.bool b)):=by cases b<;>rfl
theorem resI_eq(j n):resI j n=.w (.p (.int j n)):=by unfold resI;rw[forceI_eq]
theorem knd_refl(j:IntKind):Nat.beq (knd j) (knd j)=true:=by simp
section
variable {ty:TypeId} {q:Bool} {j:IntKind} {a b:Int} {x y:List UInt8}
theorem lss_i:bin3 .lss c ty q (.p (.int j a)) (.p (.int j b))=.w (.p (.bool (decide (a<b)))):=by
 show cond (Nat.beq (knd j) (knd j)) (resB (ltI a b)) .no=_
 rw[knd_refl,ltI_eq];exact resB_eq _
theorem leq_i:bin3 .leq c ty q (.p (.int j a)) (.p (.int j b))=.w (.p (.bool (decide (a≤b)))):=by
 show cond (Nat.beq (knd j) (knd j)) (resB (!ltI b a)) .no=_
 rw[knd_refl,ltI_eq]
 show resB _=_
 rw[resB_eq]
 congr 3
 by_cases e:b<a
 ·rw[decide_eq_true e,decide_eq_false (by omega)];rfl
 ·rw[decide_eq_false e,decide_eq_true (by omega)];rfl
theorem gtr_i:bin3 .gtr c ty q (.p (.int j a)) (.p (.int j b))=.w (.p (.bool (decide (b<a)))):=by
 show cond (Nat.beq (knd j) (knd j)) (resB (ltI b a)) .no=_
 rw[knd_refl,ltI_eq];exact resB_eq _
theorem geq_i:bin3 .geq c ty q (.p (.int j a)) (.p (.int j b))=.w (.p (.bool (decide (b≤a)))):=by
 show cond (Nat.beq (knd j) (knd j)) (resB (!ltI a b)) .no=_
 rw[knd_refl,ltI_eq]
 show resB _=_
 rw[resB_eq]
 congr 3
 by_cases e:a<b
 ·rw[decide_eq_true e,decide_eq_false (by omega)];rfl
 ·rw[decide_eq_false e,decide_eq_true (by omega)];rfl
theorem eql_i:bin3 .eql c ty q (.p (.int j a)) (.p (.int j b))=.w (.p (.bool (decide (a=b)))):=by
 show cond (Nat.beq (knd j) (knd j)) (resB (eqI a b)) .no=_
 rw[knd_refl,eqI_eq];exact resB_eq _
theorem neq_i:bin3 .neq c ty q (.p (.int j a)) (.p (.int j b))=.w (.p (.bool (!decide (a=b)))):=by
 show cond (Nat.beq (knd j) (knd j)) (resB (!eqI a b)) .no=_
 rw[knd_refl,eqI_eq];exact resB_eq _
theorem add_i:bin3 .add c ty q (.p (.int j a)) (.p (.int j b))=.w (.p (.int j (j.wrap (a+b)))):=by
 show cond (Nat.beq (knd j) (knd j)) (resI j (wrapF j (Int.add a b))) .no=_
 rw[knd_refl,wrapF_eq];exact resI_eq _ _
theorem sub_i:bin3 .sub c ty q (.p (.int j a)) (.p (.int j b))=.w (.p (.int j (j.wrap (a-b)))):=by
 show cond (Nat.beq (knd j) (knd j)) (resI j (wrapF j (Int.sub a b))) .no=_
 rw[knd_refl,wrapF_eq];exact resI_eq _ _
theorem mul_i:bin3 .mul c ty q (.p (.int j a)) (.p (.int j b))=.w (.p (.int j (j.wrap (a*b)))):=by
 show cond (Nat.beq (knd j) (knd j)) (resI j (wrapF j (Int.mul a b))) .no=_
 rw[knd_refl,wrapF_eq];exact resI_eq _ _
theorem wrap64_id{n:Int} (h1:-9223372036854775808≤n) (h2:n<9223372036854775808):IntKind.wrap .i64 n=n:=by
 rw[wrap64_eq];split<;>omega
theorem not_b{z}:un1 .not (.p (.bool z))=.w (.p (.bool (!z))):=resB_eq _
theorem eql_s:bin3 .eql c ty q (.p (.str x)) (.p (.str y))=.w (.p (.bool (decide (x=y)))):=by
 show resB (beqBytes x y)=_
 rw[beqBytes_eq];exact resB_eq _
theorem neq_s:bin3 .neq c ty q (.p (.str x)) (.p (.str y))=.w (.p (.bool (!decide (x=y)))):=by
 show resB (!beqBytes x y)=_
 rw[beqBytes_eq];exact resB_eq _
theorem lss_s:bin3 .lss c ty q (.p (.str x)) (.p (.str y))=.w (.p (.bool (Op.bytesLess x y))):=resB_eq _
theorem leq_s:bin3 .leq c ty q (.p (.str x)) (.p (.str y))=.w (.p (.bool (Op.bytesLess x y || decide (x=y)))):=by
 show resB (Op.bytesLess x y || beqBytes x y)=_
 rw[beqBytes_eq];exact resB_eq _
theorem add_s(hn:x.length+y.length≤9223372036854775807):bin3 .add c ty q (.p (.str x)) (.p (.str y))=.w (.p (.str (x++y))):=by
 show cond (Nat.ble (x.length+y.length) 9223372036854775807) (lnf (x++y) fun l=>VH.w (.p (.str l))) .no=_
 rw[lnf_eq,Nat.ble_eq_true_of_le hn];rfl
end
theorem end_ret{rs P}:endP c rs P .ret t h [] none=(match results? c h t rs with|some vs=>P (.ret (vals vs)) h|none=>False):=by
 simp only[endP,true_and]
 try rfl
theorem end_n{rs P}:endP c rs P .n t h [] none=(match results? c h t rs with|some vs=>P (.ret (vals vs)) h|none=>False):=by
 simp only[endP,true_and]
 try rfl
theorem end_pan{rs P v}:endP c rs P (.pan v) t h [] none=P (.pan v) h:=by
 simp only[endP,true_and]
theorem CS.uniq{cl h e h' e2 h2} (H:CS c o cl h e h') (H2:CS c o cl h e2 h2):e=e2∧h'=h2:=by
 obtain⟨k0,h0⟩:=H
 obtain⟨k1,h1⟩:=H2
 have a:=h0 (max k0 k1) (by omega) (fun x=>match x with | .mk e h _=>some (.mk (match e with | .ret v=>.pan (.face 0 v) | .pan v=>.pan (.face 1 v)) .lf h [] none))
 have b:=h1 (max k0 k1) (by omega) (fun x=>match x with | .mk e h _=>some (.mk (match e with | .ret v=>.pan (.face 0 v) | .pan v=>.pan (.face 1 v)) .lf h [] none))
 have q:=a.symm.trans b
 simp only[Option.some.injEq,Out.mk.injEq,true_and,and_true]at q
 obtain⟨q1,q2⟩:=q
 refine⟨?_,q2⟩
 clear a b h0 h1
 cases e with
 |ret v=>cases e2 with
  |ret u=>have:=(AV.face.inj (AEx.pan.inj q1)).2;rw[this]
  |pan u=>have:=(AV.face.inj (AEx.pan.inj q1)).1;cases this
 |pan v=>cases e2 with
  |ret u=>have:=(AV.face.inj (AEx.pan.inj q1)).1;cases this
  |pan u=>have:=(AV.face.inj (AEx.pan.inj q1)).2;rw[this]
theorem callW_ret{g as dst v h'} (hx:c.ext g=none) (H:CS c o (.fn g as) h (.ret v) h'):callW c o dst t h d r (some (.fn g as)) k Q=k (put dst v t) h' d r:=by
 unfold callW
 have:extOf c h (.fn g as)=none:=by simp only[extOf,hx]
 simp only[this]
 apply propext
 constructor
 ·intro⟨e,h2,hc,hk⟩
  obtain⟨rfl,rfl⟩:=H.uniq hc
  exact hk
 ·intro hk;exact⟨_,_,H,hk⟩
end
theorem addNew_nil{R:Type} (f:List Nat→R) (s:List Nat):addNew [] s f=f s:=rfl
theorem backGen_zero(g:Nat):backGen g 0=g:=rfl
theorem addNew_nat{R:Type} (f:List Nat→R):∀ (l s:List Nat),addNew l s f=f (addNew l s fun s=>s):=by
 intro l
 induction l with
 |nil=>intro s;rfl
 |cons i l ih=>
  intro s
  show cond (elemN i s) (addNew l s f) (lnf (s++[i]) fun s=>addNew l s f)=f (cond (elemN i s) (addNew l s fun s=>s) (lnf (s++[i]) fun s=>addNew l s fun s=>s))
  cases elemN i s with
  |true=>exact ih s
  |false=>simp only[cond,lnf_eq];exact ih _
def flat(o:Ob):Bool:=match o with
 |.row _ _ _ _ _=>true
 |.fr _ _ _=>true
 |_=>false
theorem flat_ids{o:Ob} (h:flat o=true):obIds o []=[]:=by cases o<;>first|rfl|cases h
theorem flat_gen{o:Ob} (h:flat o=true):hasGen o=true:=by cases o<;>first|rfl|cases h
theorem flat_back{o:Ob} (h:flat o=true) (r r':RenF) (g:Nat) (hg:g=obGen o):renOb r g (renOb r' 0 o)=o:=by
 cases o<;>first|(subst hg;rfl)|cases h
theorem flat_ren{o:Ob} (h:flat o=true) (r:RenF) (g:Nat):flat (renOb r g o)=true:=by cases o<;>first|rfl|cases h
theorem flat_renr{o:Ob} (h:flat o=true) (r r':RenF) (g:Nat):renOb r g o=renOb r' g o:=by cases o<;>first|rfl|cases h
theorem reach_flat{R:Type} (h:List Ob) (f:List Nat→R):∀ (k n:Nat) (s:List Nat),(∀ i∈s,flat (hget h i)=true)→reach h k n s f=f s:=by
 intro k
 induction k with
 |zero=>intro n s _;rfl
 |succ k ih=>
  intro n s hs
  show(match s.drop n with
   | []=>f s
   |i::_=>addNew (obIds (hget h i) []) s fun s=>forceN (n+1) fun n=>reach h k n s f)=f s
  split
  ·rfl
  ·rename_i i l e
   have:i∈s:=List.mem_of_mem_drop (by rw[e];exact List.mem_cons_self)
   rw[flat_ids (hs i this)]
   show forceN (n+1) (fun n=>reach h k n s f)=f s
   rw[forceN_eq];exact ih _ _ hs
theorem ltN_all{n:Nat}:∀ {l:List Nat},(∀ i∈l,i<n)→ltN n l=l:=by
 intro l hl
 rw[ltN_eq,List.filter_eq_self]
 intro i hi;simpa using hl i hi
theorem hget_flat_lt{h:List Ob} {i:Nat} (hf:flat (hget h i)=true):i<h.length:=by
 rw[hget_eq]at hf
 by_cases hi:i<h.length
 ·exact hi
 ·rw[List.getElem?_eq_none (by omega)]at hf;cases hf
theorem hset_same:∀ (h:List Ob) (i:Nat),i<h.length→hset h i (hget h i)=h:=by
 intro h
 induction h with
 |nil=>intro i hi;simp at hi
 |cons o l ih=>
  intro i hi
  cases i with
  |zero=>rfl
  |succ i=>
   show o::hset l i (hget l i)=o::l
   rw[ih i (by simpa using hi)]
theorem pick_cons{r h i l}:pick r h hget (i::l)=renOb r 0 (hget h i)::pick r h hget l:=rfl
theorem putBack_same(r r':RenF) (h:List Ob):∀ (ks:List Nat),(∀ i∈ks,flat (hget h i)=true)→putBack r h h ks (pick r' h hget ks)=h:=by
 intro ks
 induction ks with
 |nil=>intro _;rfl
 |cons k ks ih=>
  intro hf
  have hk:=hf k (List.mem_cons_self)
  rw[pick_cons]
  show putBack r h (hset h k (renOb r (backGen (obGen (hget h k)) (obGen (renOb r' 0 (hget h k)))) (renOb r' 0 (hget h k)))) ks (pick r' h hget ks)=h
  rw[renOb_gen0,backGen_zero,flat_back hk r r' _ rfl,hset_same _ _ (hget_flat_lt hk)]
  exact ih fun i hi=>hf i (List.mem_cons_of_mem _ hi)
theorem backOk_flat(r':RenF) (h:List Ob):∀ (ks:List Nat),(∀ i∈ks,flat (hget h i)=true)→backOk h ks (pick r' h hget ks)=true:=by
 intro ks
 induction ks with
 |nil=>intro _;rfl
 |cons k ks ih=>
  intro hf
  have hk:=hf k (List.mem_cons_self)
  rw[pick_cons]
  show cond (hasGen (renOb r' 0 (hget h k))) (backOk h ks (pick r' h hget ks)) _=true
  rw[flat_gen (flat_ren hk r' 0)]
  exact ih fun i hi=>hf i (List.mem_cons_of_mem _ hi)
theorem flatIds_flat(r':RenF) (h:List Ob):∀ (ks:List Nat),(∀ i∈ks,flat (hget h i)=true)→flatIds (pick r' h hget ks) []=[]:=by
 intro ks
 induction ks with
 |nil=>intro _;rfl
 |cons k ks ih=>
  intro hf
  have hk:=hf k (List.mem_cons_self)
  rw[pick_cons]
  show obIds (renOb r' 0 (hget h k)) (flatIds (pick r' h hget ks) [])=[]
  rw[ih fun i hi=>hf i (List.mem_cons_of_mem _ hi),flat_ids (flat_ren hk r' 0)]
noncomputable def smallH(h:List Ob) (ks:List Nat):List Ob:=pick (fun _ _=>none) h hget ks
theorem smallH_eq(r:RenF) (h:List Ob):∀ (ks:List Nat),(∀ i∈ks,flat (hget h i)=true)→pick r h hget ks=smallH h ks:=by
 intro ks
 induction ks with
 |nil=>intro _;rfl
 |cons k ks ih=>
  intro hf
  have hk:=hf k (List.mem_cons_self)
  unfold smallH at ih ⊢
  rw[pick_cons,pick_cons,ih fun i hi=>hf i (List.mem_cons_of_mem _ hi),flat_renr hk]
inductive RArg (h:List Ob) (ks:List Nat):AV→AV→Prop
 |p (v):RArg h ks (.p v) (.p v)
 |sl {j i g sz o n}:ks[j]?=some i→obGen (hget h i)=g→RArg h ks (.sl i g sz o n) (.sl j 0 sz o n)
inductive RArgs (h:List Ob) (ks:List Nat):List AV→List AV→Prop
 |nil:RArgs h ks [] []
 |cons {a b l m}:RArg h ks a b→RArgs h ks l m→RArgs h ks (a::l) (b::m)
theorem RArg.ren{h ks a b} (hn:ks.Nodup) (H:RArg h ks a b):ren (inR h ks) a=b:=by
 cases H with
 |p v=>rfl
 | @sl j i g sz oo n hj hg=>
  show renN (inR h ks) 6 (.sl i g sz oo n)=_
  unfold renN
  have:inR h ks i g=some (j,0):=by
   unfold inR
   rw[posOf_of hn hj]
   simp only
   rw[hg,Nat.beq_refl];rfl
  simp only[this]
theorem RArgs.ren{h ks l m} (hn:ks.Nodup) (H:RArgs h ks l m):renl (inR h ks) l=m:=by
 induction H with
 |nil=>rfl
 | @cons a b l m h1 _ ih=>
  show Ai.ren (inR h ks) a::renl (inR h ks) l=b::m
  rw[h1.ren hn,ih]
theorem cs_rows{c:Ctx} {o:Orc} {f as as0 h ks v} (hk:(addNew (idsL as []) [] fun s=>s)=ks) (hn:ks.Nodup) (hf:∀ i∈ks,flat (hget h i)=true) (ha:RArgs h ks as as0) (hp:pureT v=true)
  (H:Ct c o (.fn f as0) (smallH h ks) fun e h'=>e=.ret v∧∃ ext,h'=smallH h ks++ext):CS c o (.fn f as) h (.ret v) h:=by
 obtain⟨e,h',⟨k0,h0⟩,rfl,ext,rfl⟩:=H
 refine⟨k0,fun k hkk F=>?_⟩
 have hren:renCallee (inR h ks) (.fn f as)=some (.fn f as0):=by
  show some (Callee'.fn f (renl (inR h ks) as))=_
  rw[ha.ren hn]
 have hsm:pick (inR h ks) h hget ks=smallH h ks:=smallH_eq _ _ _ hf
 have hlen:(smallH h ks).length=ks.length:=by unfold smallH;exact pick_length _ _ _
 have hids:idsEnd (.ret v) []=[]:=by
  show idsN 6 v []=[]
  unfold pureT at hp
  split at hp
  ·rfl
  ·rename_i l
   split at hp
   ·rename_i ps hl
    have:∀ (l:List AV) (ps:List PV),allP l=some ps→l.foldr (idsN 5) []=[]:=by
     intro l
     induction l with
     |nil=>intro _ _;rfl
     |cons a l ih=>
      intro ps hl
      cases a with
      |p x=>
       simp only[allP]at hl
       split at hl
       ·rename_i m hm
        show idsN 5 (.p x) (l.foldr (idsN 5) [])=[]
        rw[ih m hm];rfl
       ·cases hl
      |_=>cases hl
    exact this l ps hl
   ·cases hp
  ·cases hp
 have hrend:∀ r:RenF,renEnd r (.ret v)=.ret v:=by
  intro r
  show AEnd.ret (ren r v)=.ret v
  congr 1
  unfold pureT at hp
  split at hp
  ·rfl
  ·rename_i l
   split at hp
   ·rename_i ps hl
    show AV.tup (l.map (renN r 5))=.tup l
    congr 1
    have:∀ (l:List AV) (ps:List PV),allP l=some ps→l.map (renN r 5)=l:=by
     intro l
     induction l with
     |nil=>intro _ _;rfl
     |cons a l ih=>
      intro ps hl
      cases a with
      |p x=>
       simp only[allP]at hl
       split at hl
       ·rename_i m hm
        show renN r 5 (.p x)::l.map (renN r 5)=_
        rw[ih m hm];rfl
       ·cases hl
      |_=>cases hl
    exact this l ps hl
   ·cases hp
  ·cases hp
 unfold inner
 show addNew (idsL as []) [] _=_
 rw[addNew_nat,hk,reach_flat h _ _ _ _ hf]
 rw[lnf_eq,ltN_all fun i hi=>hget_flat_lt (hf i hi)]
 unfold innerGo
 rw[renCalleeK_eq,hren]
 simp only
 rw[pickK_eq,hsm]
 show(match callN c o k (.fn f as0) (smallH h ks) none with
  |none=>none
  |some x=>innerBack h ks x F none)=_
 rw[h0 k hkk]
 simp only
 unfold innerBack
 simp only[lnf_eq]
 rw[show(smallH h ks++ext).take ks.length=smallH h ks from by rw[← hlen,List.take_left]]
 rw[← hsm,backOk_flat _ _ _ hf]
 show addNew (idsEnd (.ret v) (flatIds (pick (inR h ks) h hget ks) [])) [] _=_
 rw[flatIds_flat _ _ _ hf,hids]
 rw[addNew_nil,reach_flat _ _ _ _ _ (by intro i hi;cases hi)]
 show renEndK _ _ _=_
 rw[renEndK_eq,hrend,renRMK_eq,putBackK_eq,putBack_same _ _ _ _ hf,pickK_eq]
 show F (CR.mk (.ret v) (h++[]) none)=_
 rw[List.append_nil]
theorem cs_p{c:Ctx} {o:Orc} {f:FuncId} {ps:List PV} {h v} (hp:pureT v=true) (H:Ct c o (.fn f (ps.map .p)) [] fun e _=>e=.ret v):CS c o (.fn f (ps.map .p)) h (.ret v) h:=by
 have hk:∀ ps:List PV,idsL (ps.map .p) []=[]:=by
  intro ps
  induction ps with
  |nil=>rfl
  |cons a l ih=>show idsN 6 (.p a) (idsL (l.map .p) [])=[];rw[ih];rfl
 have ha:∀ ps:List PV,RArgs h [] (ps.map .p) (ps.map .p):=by
  intro ps
  induction ps with
  |nil=>exact .nil
  |cons a l ih=>exact .cons (.p a) ih
 refine cs_rows (ks:=[]) (by rw[hk];rfl) List.nodup_nil (fun i hi=>by cases hi) (ha ps) hp ?_
 obtain⟨e,h',h0,he⟩:=H
 exact⟨e,h',h0,he,h',rfl⟩
theorem ct_sc{c:Ctx} {o:Orc} {f:FuncId} {fn:Func} {sc:SC} {n:Nat} {rs:List ResultVar} {args h P} (hf:c.fn f=some fn) (hb:fn.body.map tr=some sc) (hn:fn.ntmps=n) (hr:fn.results.toList=rs)
  (ho:o f args h=none) (ha:Nat.ble args.length n=true) (hok:okS n sc=true)
  (hw:xC c o none sc (endP c rs P) (argT args 0 .lf) h [] none):Ct c o (.fn f args) h P:=by
 subst hn;subst hr
 cases hb':fn.body with
 |none=>rw[hb']at hb;cases hb
 |some b=>
  rw[hb']at hb
  have:tr b=sc:=Option.some.inj hb
  subst this
  exact ct_wp hf hb' ho ha hok hw
section
variable {c:Ctx} {o:Orc} {rd:Option Nat} {Q:Post} {t:Tm} {h:List Ob} {d:List AD} {r:Option RM} {k:KP}
variable {ty e:TypeId} {s:List UInt8} {v x:AV} {n sz:Nat} {xs:List PV}
noncomputable def lenW(c:Ctx) (h:List Ob) (ty:TypeId) (x:AV):VH:=match lenP c ty x with|some v=>.w v|none=>.ofO (lenM c h ty x)
theorem opD_len'{x ty}:opD (.call {callee:=.builtin .len,args:=#[x],argTypes:=#[ty]}) c t h=lenW c h ty (ev c t x):=(rfl)
theorem len_str(hu:c.under ty=some .string):lenW c h ty (.p (.str s))=.w (.p (.int .i64 s.length)):=by
 unfold lenW lenP;rw[hu];simp only[forceN_eq];rfl
theorem len_slice(hu:c.under ty=some (.slice e)) (hl:lenOf? x=some n) (hs:∀ s,x ≠ .p (.str s)):lenW c h ty x=.w (.p (.int .i64 n)):=by
 unfold lenW lenP;rw[hu]
 simp only[hl,forceN_eq]
 rfl
theorem len_nils(hu:c.under ty=some (.slice e)):lenW c h ty (.p .nils)=.w (.p (.int .i64 (0:Nat))):=len_slice hu rfl (by intro s hs;cases hs)
theorem len_vec(hu:c.under ty=some (.slice e)):lenW c h ty (.p (.vec sz xs))=.w (.p (.int .i64 xs.length)):=len_slice hu rfl (by intro s hs;cases hs)
theorem len_sl{i g o n} (hu:c.under ty=some (.slice e)):lenW c h ty (.sl i g sz o n)=.w (.p (.int .i64 n)):=len_slice hu rfl (by intro s hs;cases hs)
theorem byteAt_eq{j:Nat} (hj:j<s.length):byteAt s j=some (.p (.int .u8 (s.getD j 0).toNat)):=by
 show(match s.drop j with|b::_=>forceN b.toNat fun b=>some (AV.p (.int .u8 (.ofNat b))) | []=>none)=_
 have:s.drop j=s.getD j 0::s.drop (j+1):=by
  rw[List.drop_eq_getElem_cons hj]
  simp [List.getD,hj]
 rw[this];simp only[forceN_eq];rfl
theorem inB_i{j:IntKind} {i:Int} (h0:0≤i) (hn:i<n):inB (.p (.int j i)) n=some i.toNat:=by
 cases i with
 |negSucc m=>omega
 |ofNat m=>
  show cond (Nat.blt m n) (some m) none=_
  rw[show Nat.blt m n=true from Nat.ble_eq_true_of_le (by have:(m:Int)<n:=hn;omega)];rfl
theorem index_str{i:Int} {j:IntKind} (hu:c.under ty=some .string) (h0:0≤i) (hn:i<s.length):index? c ty (.p (.str s)) (.p (.int j i))=some (.p (.int .u8 (s.getD i.toNat 0).toNat)):=by
 unfold index?;rw[hu];simp only[inB_i h0 hn]
 exact byteAt_eq (by omega)
theorem conv_int{src dst:TypeId} {j q:IntKind} {m:Int} {dd:TypeDesc} (hs:c.under src=some dd) (hd:c.under dst=some (.int q)):conv3 c h src dst (.p (.int j m))=.w (.p (.int q (q.wrap m))):=by
 unfold conv3
 simp only[floatOf,hs,hd]
 unfold conv
 simp only[hs]
 unfold convP
 simp only[hd,onI,wrapF_eq,resI_eq]
theorem slice_str{lo hi:Option AV} {a b:Nat} (hu:c.under ty=some .string) (hhi:bnd hi s.length s.length=some b) (hlo:bnd lo 0 b=some a) :
  slice2 c ty (.p (.str s)) 0 lo hi=some (.p (.str ((s.take b).drop a))):=by
 unfold slice2;rw[hu];simp only[bnds,hhi,hlo,lnf_eq]
theorem bnd_some{j:IntKind} {i:Int} {a b:Nat} (h0:0≤i) (hn:i≤b):bnd (some (.p (.int j i))) a b=some i.toNat:=by
 show inB (.p (.int j i)) (b+1)=_
 exact inB_i h0 (by omega)
theorem build1{v:PV} {a:Bool} {z:PV} (hu:c.under ty=some (.slice e)) (hs:sizeOf? c e=some (sz+1)) (ha:aggT? c e=some a) (hz:zero? c e=some z)
  (hsz:Nat.ble (1*(sz+1)) 16777216=true) (hv:fitsA a (sz+1) v=true) (hzf:fitsA a (sz+1) z=true) :
  buildSlice? c h ty 1 [(0,.p v)]=.wh (.sl h.length 0 (sz+1) 0 1) (h++[.row e (sz+1) [v] true 0]):=by
 unfold buildSlice?
 simp only[hu,hs,ha,pureParts,pure1,zeros?,hz]
 have:(Nat.ble (1*(sz+1)) 16777216&&allFit2 a (sz+1) [(0,v)]&&allFit a (sz+1) (List.replicate 1 z))=true:=by
  simp only[hsz,allFit2,hv,cond,Bool.true_and,List.replicate,allFit,hzf]
 simp only[List.replicate]at this ⊢
 rw[this]
 simp only[cond,setAll]
 simp only[List.length_cons,List.length_nil,show Nat.blt 0 (0+1)=true from rfl,lnf_eq,List.set]
 unfold newRowH
 simp only[forceN_eq,lnf_eq]
inductive Acc (h:List Ob) (e:TypeId) (sz:Nat):AV→List PV→Prop
 |nil:Acc h e sz (.p .nils) []
 |row {i g xs}:hget h i=.row e sz xs false g→Acc h e sz (.sl i g sz 0 xs.length) xs
theorem Acc.ext{h h' e sz v xs} (H:Acc h e sz v xs) (hh:∀ i,i<h.length→hget h' i=hget h i):Acc h' e sz v xs:=by
 cases H with
 |nil=>exact .nil
 |row hr=>exact .row (by rw[hh _ (hget_flat_lt (by rw[hr];rfl)),hr])
theorem Acc.elems(H:Acc h e sz v xs):elems? h v=some xs:=by
 cases H with
 |nil=>rfl
 | @row i g xs hr=>
  show elemsSl h i g sz 0 xs.length=_
  unfold elemsSl rowAt
  rw[hr];simp only[Nat.beq_refl,Bool.true_and,cond]
  unfold sub?
  rw[Nat.ble_eq_true_of_le (by omega)]
  simp
theorem Acc.szIs(H:Acc h e sz v xs):szIs sz v=true:=by
 cases H with
 |nil=>rfl
 |row hr=>exact Nat.beq_refl _
theorem Acc.ns(H:Acc h e sz v xs):∀ q,v ≠ .p (.str q):=by intro q hq;subst hq;cases H
theorem Acc.len(H:Acc h e sz v xs) (hu:c.under ty=some (.slice e)):lenW c h ty v=.w (.p (.int .i64 xs.length)):=by
 cases H with
 |nil=>exact len_nils hu
 |row hr=>exact len_sl hu
theorem room_le{m:Nat} (hr:room c e m=true) (hn:n≤m):room c e n=true:=by
 unfold room at hr ⊢
 cases hi:c.info e with
 |none=>rw[hi]at hr;cases hr
 |some i=>
  cases hz:zero? c e with
  |none=>rw[hi,hz]at hr;cases hr
  |some z=>
   rw[hi,hz]at hr
   simp only[Bool.and_eq_true]at hr ⊢
   refine⟨?_,hr.2⟩
   have h1:=Nat.le_of_ble_eq_true hr.1
   exact Nat.ble_eq_true_of_le (Nat.le_trans (Nat.mul_le_mul_right _ hn) h1)
theorem ext_of{h h':List Ob} (hl:h.length≤h'.length) (hk:∀ i,i<h.length→hget h' i=hget h i):∃ ext,h'=h++ext:=by
 refine⟨h'.drop h.length,?_⟩
 apply List.ext_getElem?
 intro i
 by_cases hi:i<h.length
 ·rw[List.getElem?_append_left hi]
  have:=hk i hi
  rw[hget_eq,hget_eq]at this
  rw[List.getElem?_eq_getElem hi,List.getElem?_eq_getElem (by omega)]at this ⊢
  simpa using this
 ·rw[List.getElem?_append_right (by omega),List.getElem?_drop]
  congr 1;omega
theorem elems_sl1{i g ex} (hr:hget h i=.row e sz xs ex g):elems? h (.sl i g sz 0 xs.length)=some xs:=by
 show elemsSl h i g sz 0 xs.length=_
 unfold elemsSl rowAt
 rw[hr];simp only[Nat.beq_refl,Bool.true_and,cond]
 unfold sub?
 rw[Nat.ble_eq_true_of_le (by omega)]
 simp
theorem bytesOf_bytesPV:∀ s:List UInt8,bytesOf (bytesPV s)=some s:=by
 intro s
 induction s with
 |nil=>rfl
 |cons b l ih=>
  show(match bytesOf (bytesPV l)with|some m=>some (UInt8.ofNat (Int.ofNat b.toNat).toNat::m)|none=>none)=_
  rw[ih]
  simp
theorem conv_bytes{src dst:TypeId} (hs:c.under src=some (.slice e)) (hb:c.under e=some (.int .u8)) (hd:c.under dst=some .string)
  (hf:floatOf x=none) (hp:∀ q,x ≠ .p (.str q)) (hsz:szIs 1 x=true) (he:elems? h x=some (bytesPV s)):conv3 c h src dst x=.w (.p (.str s)):=by
 unfold conv3
 simp only[hf,hs,hd]
 unfold conv
 simp only[hs]
 have:convP c dst x=.no:=by
  unfold convP
  simp only[hd]
  split
  ·rename_i p
   split
   ·rename_i q;exact(hp q rfl).elim
   ·rfl
  ·rfl
 rw[this]
 simp only
 unfold convH
 simp only[hs,hd,isByteT,hb,hsz,Bool.true_and,cond,he,bytesOf_bytesPV,lnf_eq]
inductive Txts (h:List Ob):AV→List (List UInt8)→Prop
 |nil:Txts h (.p .nils) []
 |vec (l):Txts h (.p (.vec 1 (l.map .str))) l
 |row {i g e l ex}:hget h i=.row e 1 (l.map .str) ex g→Txts h (.sl i g 1 0 l.length) l
theorem Txts.ext{h h' v l} (H:Txts h v l) (hh:∀ i,i<h.length→hget h' i=hget h i):Txts h' v l:=by
 cases H with
 |nil=>exact .nil
 |vec l=>exact .vec l
 |row hr=>exact .row (by rw[hh _ (hget_flat_lt (by rw[hr];rfl)),hr])
theorem Txts.len{l} (H:Txts h v l) (hu:c.under ty=some (.slice e)):lenW c h ty v=.w (.p (.int .i64 l.length)):=by
 cases H with
 |nil=>exact len_nils hu
 |vec l=>rw[len_vec hu,List.length_map]
 |row hr=>exact len_sl hu
noncomputable def rdA(v:AV) (k:Nat):AV:=match v with
 |.p (.vec _ xs)=>.cptr (xs.getD k .nilp)
 |.sl i g s off _=>.el i g s (off+k) 0
 |_=>.un
theorem Txts.at{l} {i:Int} {j:IntKind} (H:Txts h v l) (hu:c.under ty=some (.slice e)) (hs:sizeOf? c e=some 1) (h0:0≤i) (hn:i<l.length) :
  indexAddr? c ty v (.p (.int j i))=some (rdA v i.toNat):=by
 unfold indexAddr?
 simp only[hu,hs]
 cases H with
 |nil=>simp at hn;omega
 |vec l=>
  show idxVec (.p (.int j i)) 1 1 (l.map .str)=_
  unfold idxVec
  simp only[Nat.beq_refl,cond]
  rw[inB_i h0 (by rw[List.length_map];exact hn)]
  simp only[pget_eq]
  have hi:i.toNat<(l.map PV.str).length:=by rw[List.length_map];omega
  rw[List.getElem?_eq_getElem hi]
  simp [rdA,List.getD,hi]
  have:i.toNat<l.length:=by omega
  simp [this]
 | @row a g e' l ex hr=>
  show idxSlice 1 (.sl a g 1 0 l.length) (.p (.int j i))=_
  unfold idxSlice
  simp only[Nat.beq_refl,cond]
  rw[inB_i h0 hn]
  simp only[forceN_eq];rfl
theorem Txts.load{l} {k:Nat} (H:Txts h v l) (ha:aggT? c e=some false) (hk:k<l.length):load? c h e (rdA v k)=some (.p (.str (l.getD k []))):=by
 cases H with
 |nil=>simp at hk
 |vec l=>
  show loadC c e ((l.map PV.str).getD k .nilp)=_
  have:(l.map PV.str).getD k .nilp=.str (l.getD k []):=by simp [List.getD,hk]
  rw[this]
  unfold loadC
  simp only[ha]
 | @row a g e' l ex hr=>
  show loadEl c h e a g 1 (0+k) 0=_
  unfold loadEl rowAt
  simp only[hr,Nat.beq_refl,Bool.true_and,cond,pget_eq,Nat.zero_add]
  have:(l.map PV.str)[k]?=some (.str (l.getD k [])):=by simp [List.getD,hk]
  rw[this]
  simp only[PV.cells,part?,ha]
  rfl
theorem append_nil0{new:List PV} (hsz:sizeOf? c e=some sz) (h1:Nat.ble 1 sz=true) (hx:elems? h x=some new) (hsx:szIsB sz x=true) (hn:new ≠ []) (hr:room c e new.length=true) :
  append? c h e (.p .nils) x=.wn (.sl h.length 0 sz 0 new.length) (.row e sz new false 0):=by
 unfold append?
 simp only[hsz,hx,h1,hsx,Bool.and_self,cond]
 cases hnew:new with
 |nil=>exact(hn hnew).elim
 |cons a l=>
  rw[hnew]at hr
  simp only[hr]
  unfold newRow
  simp only[forceN_eq,lnf_eq]
noncomputable def appW(c:Ctx) (h:List Ob) (st xt:TypeId) (s x:AV):VH:=match c.under st,c.under xt with
 |some (.slice el),some (.slice _)=>append? c h el s x
 |some (.slice el),some .string=>append? c h el s x
 |_,_=>.no
theorem opD_append'{s x st xt}:opD (.call {callee:=.builtin .append,args:=#[s,x],argTypes:=#[st,xt]}) c t h=appW c h st xt (ev c t s) (ev c t x):=(rfl)
theorem appW_sl{st xt:TypeId} {s x:AV} {e':TypeId} (h1:c.under st=some (.slice e)) (h2:c.under xt=some (.slice e')):appW c h st xt s x=append? c h e s x:=by
 unfold appW;rw[h1,h2]
theorem appW_str{st xt:TypeId} {s x:AV} (h1:c.under st=some (.slice e)) (h2:c.under xt=some .string):appW c h st xt s x=append? c h e s x:=by
 unfold appW;rw[h1,h2]
noncomputable def sliceW(c:Ctx) (h:List Ob) (ty:TypeId) (x:AV) (lo hi:Option AV):VH:=match slice2 c ty x 0 lo hi with
  |some v=>.w v
  |none=>.ofO (slice2 c ty x (moreOf h x) lo hi)
theorem opD_slice'{ty x lo hi}:opD (.slice ty x lo hi none) c t h=sliceW c h ty (ev c t x) (evo c t lo) (evo c t hi):=(rfl)
theorem slice_str'{lo hi:Option AV} {a b:Nat} (hu:c.under ty=some .string) (hhi:bnd hi s.length s.length=some b) (hlo:bnd lo 0 b=some a) :
  sliceW c h ty (.p (.str s)) lo hi=.w (.p (.str ((s.take b).drop a))):=by
 unfold sliceW;rw[slice_str hu hhi hlo]
end
mutual
theorem PV.same_refl:∀ v:PV,PV.same v v=true
 |.bool b=>by cases b<;>rfl
 |.int j a=>by
  show(j == j&&eqI a a)=true
  rw[eqI_eq];simp
 |.float j a=>by
  show(Nat.beq (fkn j) (fkn j)&&Nat.beq a a)=true
  rw[Nat.beq_refl,Nat.beq_refl];rfl
 |.str a=>by show beqBytes a a=true;rw[beqBytes_eq];simp
 |.nilp=>rfl
 |.nils=>rfl
 |.nilm=>rfl
 |.nilf=>rfl
 |.nili=>rfl
 |.fn a=>Nat.beq_refl a
 |.vec s a=>by
  show(Nat.beq s s&&PV.sames a a)=true
  rw[Nat.beq_refl,PV.sames_refl a];rfl
 |.agg a=>PV.sames_refl a
 |.face t a=>by
  show(Nat.beq t t&&PV.same a a)=true
  rw[Nat.beq_refl,PV.same_refl a];rfl
theorem PV.sames_refl:∀ l:List PV,PV.sames l l=true
 | []=>rfl
 |a::l=>by
  show(PV.same a a&&PV.sames l l)=true
  rw[PV.same_refl a,PV.sames_refl l];rfl
end
mutual
theorem AV.same_refl:∀ v:AV,AV.same v v=true
 |.un=>rfl
 |.p a=>PV.same_refl a
 |.ptr i o=>by show(Nat.beq i i&&Nat.beq o o)=true;simp
 |.cptr a=>PV.same_refl a
 |.sl i g s o n=>by show(Nat.beq i i&&Nat.beq g g&&Nat.beq s s&&Nat.beq o o&&Nat.beq n n)=true;simp
 |.el i g s o n=>by show(Nat.beq i i&&Nat.beq g g&&Nat.beq s s&&Nat.beq o o&&Nat.beq n n)=true;simp
 |.asl i o n s=>by show(Nat.beq i i&&Nat.beq s s&&Nat.beq o o&&Nat.beq n n)=true;simp
 |.full s a=>by show(Nat.beq s s&&PV.sames a a)=true;rw[PV.sames_refl a];simp
 |.func f a b=>by show(Nat.beq f f&&AV.sames a a&&AV.sames b b)=true;rw[AV.sames_refl a,AV.sames_refl b];simp
 |.yield i=>Nat.beq_refl i
 |.face t a=>by show(Nat.beq t t&&AV.same a a)=true;rw[AV.same_refl a];simp
 |.agg a=>AV.sames_refl a
 |.tup a=>AV.sames_refl a
 |.map i=>Nat.beq_refl i
theorem AV.sames_refl:∀ l:List AV,AV.sames l l=true
 | []=>rfl
 |a::l=>by show(AV.same a a&&AV.sames l l)=true;rw[AV.same_refl a,AV.sames_refl l];rfl
end
section
variable {c:Ctx} {o:Orc} {rd:Option Nat} {Q:Post} {t:Tm} {h:List Ob} {d:List AD} {r:Option RM} {k:KP}
def noZ:List (SOp×DK)→Bool
 | []=>true
 |x::l=>!isZ x.1.op&&noZ l
theorem hoist_noZ:∀ {l:List (SOp×DK)},noZ l=true→∀ h,hoistS c l h=some ([],h):=by
 intro l
 induction l with
 |nil=>intro _ h;rfl
 |cons x l ih=>
  intro hz h
  simp only[noZ,Bool.and_eq_true,Bool.not_eq_true']at hz
  unfold hoistS
  rw[hz.1]
  exact ih hz.2 h
theorem xC_draw{l} (hz:noZ l=true):xC c o rd (.draw l) Q t h d r=xDraw c o rd Q l 0 [h] [] [] t h d r:=by
 simp only[xC]
 rw[hoist_noZ hz]
theorem xDraw_nil{m hs ps zs}:xDraw c o rd Q [] m hs ps zs t h d r=Q .n t h d r:=(rfl)
noncomputable def LW(x:Option AV) (f:List Ob→Option AV) (hs:List (List Ob)) (k:AV→Prop):Prop:=
 match x with
 |some v=>looksSame f v hs=true∧k v
 |none=>False
@[congr] theorem LW_congr{x x' f hs k} (hx:x=x'):LW x f hs k=LW x' f hs k:=by rw[hx]
theorem LW_some{v f hs k}:LW (some v) f hs k=(looksSame f v hs=true∧k v):=(rfl)
theorem xDraw_L{s lo hi blank l m hs ps zs}:xDraw c o rd Q ((s,.L lo hi blank)::l) m hs ps zs t h d r =
  LW (lookS' c s (blur t blank) h) (lookS' c s (blur t blank)) ((hs.drop 1).take (m-lo)) (fun v=>
   xDraw c o rd Q l m hs (if m<hi then .mk (lookS' c s (blur t blank)) v hi::ps else ps) zs (put s.dst v t) h d r):=by
 show(match lookS' c s (blur t blank) h with|some v=>_|none=>False)=_
 unfold LW
 cases lookS' c s (blur t blank) h with
 |none=>rfl
 |some v=>
  simp only
  by_cases e:m<hi
  ·rw[if_pos e,show Nat.blt m hi=true from Nat.ble_eq_true_of_le e];rfl
  ·rw[if_neg e,show Nat.blt m hi=false from Bool.eq_false_iff.2 fun q=>e (Nat.le_of_ble_eq_true q)];rfl
theorem xDraw_A{s bl blank l m hs ps zs}:xDraw c o rd Q ((s,.A bl blank)::l) m hs ps zs t h d r =
  x1 c o rd s (blur t blank) h d r (fun t' h' d' r' => pendOk (m + 1) h' ps = true ∧
    xDraw c o rd Q l (m+1) (h'::hs) ps zs (put s.dst (slotV s.dst t') t) h' d' r') (drawE Q l bl zs t):=(rfl)
theorem drawE_pan{Q:Post} {bl:List Tmp} {zs:List AV} {t t':Tm} {h:List Ob} {d:List AD} {r:Option RM} {v:AV}:drawE Q [] bl zs t (.pan v) t' h d r=Q (.pan v) (blur t bl) h d r:=by
 show(True∧Q (.pan v) (blur t bl) h d r)=_
 simp
theorem drawE_panS{Q:Post} {l:List (SOp×DK)} {bl:List Tmp} {zs:List AV} {t t':Tm} {h:List Ob} {d:List AD} {r:Option RM} {v:AV}:drawE Q l bl zs t (.pan v) t' h d r=(skipP l bl zs∧Q (.pan v) (blur t bl) h d r):=(rfl)
theorem skip_nil{bl zs}:skipP [] bl zs=True:=(rfl)
theorem skip_Z{s l bl v} {zs:List AV}:skipP ((s,.Z)::l) bl (v::zs)=skipP l bl zs:=(rfl)
theorem skip_L{g op d l bl zs a b e}:skipP ((⟨g,op,some d⟩,.L a b e)::l) bl zs=(nin d bl∧skipP l bl zs):=(rfl)
theorem skip_A{s l bl zs a b}:skipP ((s,.A a b)::l) bl zs=skipP l bl zs:=(rfl)
theorem nin_nil{d}:nin d []=True:=(rfl)
theorem nin_cons{d e l}:nin d (e::l)=(d ≠ e∧nin d l):=(rfl)
theorem x1_none{op dst Q}:x1 c o rd ⟨none,op,dst⟩ t h d r k Q=opW c o rd op dst t h d r (opD op c t h) k Q:=(rfl)
theorem x1_guard{s w op dst Q}:x1 c o rd ⟨some (some s,w),op,dst⟩ t h d r k Q=gW (t.get s) w (opW c o rd op dst t h d r (opD op c t h) k Q) (k (put dst undefA t) h d r):=by
 have:=xOps_guard (c:=c) (o:=o) (rd:=rd) (Q:=fun e t h d r=>match e with | .n=>k t h d r|e=>Q e t h d r) (t:=t) (h:=h) (d:=d) (r:=r) (l:=[]) (s:=s) (w:=w) (op:=op) (dst:=dst)
 unfold x1 wantS gW
 simp only
 split
 ·rename_i e
  cases hv:t.get s with
  |p v=>
   rw[hv]at e
   cases v with
   |bool b=>
    have:(b == w)=true:=Option.some.inj e
    have:b=w:=by simpa using this
    simp [this]
   |_=>simp only[Option.some.injEq,Bool.false_eq_true]at e
  |un=>rw[hv]at e;cases e
  |_=>rw[hv]at e;simp only[Option.some.injEq,Bool.false_eq_true]at e
 ·rename_i e
  cases hv:t.get s with
  |p v=>
   rw[hv]at e
   cases v with
   |bool b=>
    have:(b == w)=false:=Option.some.inj e
    have:b ≠ w:=by simpa using this
    simp [this]
   |_=>rfl
  |un=>rw[hv]at e;cases e
  |_=>rfl
 ·rename_i e
  cases hv:t.get s with
  |p v=>rw[hv]at e;cases v<;>cases e
  |un=>rfl
  |_=>rw[hv]at e;cases e
theorem blur_nil:blur t []=t:=(rfl)
theorem blur_cons{x l}:blur t (x::l)=blur (t.set x .un) l:=(rfl)
theorem slotV_some{s}:slotV (some s) t=t.get s:=(rfl)
def toO:VH→Option AV
 |.w v=>some v
 |_=>none
theorem toO_w{v}:toO (.w v)=some v:=(rfl)
theorem look_none{op dst}:lookS' c ⟨none,op,dst⟩ t h=toO (opD op c t h):=by
 show(match opD op c t h with | .w v=>some v|_=>none)=_
 unfold toO;rfl
def gL(v:AV) (w:Bool) (A B:Option AV):Option AV:=match v with
 |.p p=>(match p with | .bool b=>cond (b == w) A B|_=>B)
 |.un=>none
 |_=>B
@[congr] theorem gL_congr{v v':AV} {w A B} (hv:v=v'):gL v w A B=gL v' w A B:=by rw[hv]
theorem gL_tt{A B}:gL (.p (.bool true)) true A B=A:=(rfl)
theorem gL_tf{A B}:gL (.p (.bool true)) false A B=B:=(rfl)
theorem gL_ft{A B}:gL (.p (.bool false)) true A B=B:=(rfl)
theorem gL_ff{A B}:gL (.p (.bool false)) false A B=A:=(rfl)
theorem gL_un{w A B}:gL undefA w A B=B:=(rfl)
theorem look_guard{s w op dst}:lookS' c ⟨some (some s,w),op,dst⟩ t h=gL (t.get s) w (toO (opD op c t h)) (some undefA):=by
 unfold lookS' wantS gL toO
 simp only
 cases t.get s with
 |p v=>cases v with
  |bool b=>simp only;cases b == w<;>rfl
  |_=>rfl
 |_=>rfl
theorem looksSame_nil{f v}:looksSame f v []=true:=(rfl)
theorem looksSame_cons{f v h l} (hf:f h=some v):looksSame f v (h::l)=looksSame f v l:=by
 show(match f h with|some u=>cond (AV.same u v) (looksSame f v l) false|_=>false)=_
 rw[hf];simp only[AV.same_refl,cond]
theorem pendOk_nil{m}:pendOk m h []=true:=(rfl)
theorem pendOk_cons{m f v hi l}:pendOk m h (.mk f v hi::l)=if m≤hi then(looksSame f v [h]&&pendOk m h l)else pendOk m h l:=by
 show cond (Nat.ble m hi) (cond (looksSame f v [h]) (pendOk m h l) false) (pendOk m h l)=_
 by_cases e:m≤hi
 ·rw[if_pos e,Nat.ble_eq_true_of_le e];cases looksSame f v [h]<;>rfl
 ·rw[if_neg e,show Nat.ble m hi=false from Bool.eq_false_iff.2 fun q=>e (Nat.le_of_ble_eq_true q)];rfl
end
theorem addNew_cons{R:Type} (i:Nat) (l s:List Nat) (f:List Nat→R):addNew (i::l) s f=cond (elemN i s) (addNew l s f) (lnf (s++[i]) fun s=>addNew l s f):=rfl
section
variable {c:Ctx} {h:List Ob} {ty e:TypeId} {cs vs:List AV} {ps:List PV} {v:AV} {n i:Nat}
theorem hset_new(h:List Ob) (x y:Ob):hset (h++[x]) h.length y=h++[y]:=by
 induction h with
 |nil=>rfl
 |cons a l ih=>show a::hset (l++[x]) l.length y=_;rw[ih];rfl
theorem mkAgg_p:∀ (ps:List PV),mkAgg (ps.map .p)=.p (.agg ps):=by
 intro ps
 have:∀ ps:List PV,allP (ps.map .p)=some ps:=by
  intro ps
  induction ps with
  |nil=>rfl
  |cons a l ih=>show(match allP (l.map .p)with|some m=>some (a::m)|none=>none)=_;rw[ih]
 unfold mkAgg;rw[this]
theorem store_whole(hs:sizeOf? c ty=some n) (hi:hget h i=.cells e cs) (hv:v.cells?=some vs) (h1:vs.length=n) (h2:cs.length=n):store? c h ty (.ptr i 0) v=.ws undefA i (.cells e vs):=by
 unfold store?
 simp only[hs]
 unfold storePtr
 simp only[hv,hi,h1,Nat.beq_refl,cond]
 unfold overK
 rw[Nat.ble_eq_true_of_le (by omega)]
 simp only[lnf_eq,cond,List.take_zero,List.nil_append,Nat.zero_add,h1]
 rw[List.drop_of_length_le (by omega),List.append_nil]
theorem load_whole(ha:aggT? c ty=some true) (hs:sizeOf? c ty=some n) (hi:hget h i=.cells e cs) (h2:cs.length=n):load? c h ty (.ptr i 0)=some (mkAgg cs):=by
 show loadPtr c h ty i 0=_
 unfold loadPtr
 simp only[hi]
 unfold partA?
 simp only[ha,hs]
 unfold subK
 rw[Nat.ble_eq_true_of_le (by omega)]
 simp only[cond,lnf_eq,List.drop_zero]
 rw[List.take_of_length_le (by omega)]
theorem aget_eq'(l:List AV):∀ n,aget l n=l[n]?:=by
 induction l with
 |nil=>intro n;rfl
 |cons x l ih=>intro n;cases n with
  |zero=>rfl
  |succ n=>show aget l n=_;rw[ih];simp
theorem load_one{off:Nat} (ha:aggT? c ty=some false) (hi:hget h i=.cells e cs) (hc:cs[off]?=some v):load? c h ty (.ptr i off)=some v:=by
 show loadPtr c h ty i off=_
 unfold loadPtr
 simp only[hi]
 unfold partA?
 simp only[ha,aget_eq',hc]
theorem fieldAddr_ptr{s:TypeId} {f:Nat} {t:TypeId} {off m o:Nat} (hf:(fieldOf c s f).map (fun f=>(f.type,f.offset))=some (t,off)) (hs:sizeOf? c t=some (m+1)):fieldAddr? c s (.ptr i o) f=some (.ptr i (o+off)):=by
 unfold fieldAddr?
 cases hq:fieldOf c s f with
 |none=>rw[hq]at hf;cases hf
 |some fd=>
  rw[hq]at hf
  have:(fd.type,fd.offset)=(t,off):=Option.some.inj hf
  injection this with q1 q2
  simp only[q1,q2,hs,forceN_eq]
end
def xr(a b:Int):Int:=IntKind.wrap .u32 ((BitVec.ofInt 32 a ^^^ BitVec.ofInt 32 b).toNat)
def an(a b:Int):Int:=IntKind.wrap .u32 ((BitVec.ofInt 32 a &&& BitVec.ofInt 32 b).toNat)
def orr(a b:Int):Int:=IntKind.wrap .u32 ((BitVec.ofInt 32 a ||| BitVec.ofInt 32 b).toNat)
def nt(a:Int):Int:=IntKind.wrap .u32 ((BitVec.ofInt 32 4294967295 ^^^ BitVec.ofInt 32 a).toNat)
abbrev ad(a b:Int):Int:=IntKind.wrap .u32 (a+b)
def sl32(a:Int) (n:Nat):Int:=IntKind.wrap .u32 (a*2 ^ n)
def sr32(a:Int) (n:Nat):Int:=a.fdiv (2 ^ n)
def rot(a:Int) (n:Nat):Int:=orr (sl32 a n) (sr32 a (32-n))
def an64(a b:Int):Int:=IntKind.wrap .u64 ((BitVec.ofInt 64 a &&& BitVec.ofInt 64 b).toNat)
section
variable {c:Ctx} {t:Tm} {h:List Ob} {ty e:TypeId} {q:Bool} {a b:Int} {j:IntKind}
theorem bxor_u:bin3 .xor c ty q (.p (.int .u32 a)) (.p (.int .u32 b))=.w (.p (.int .u32 (xr a b))):=by
 show resI .u32 (xr a b)=_
 exact resI_eq _ _
theorem band_u:bin3 .and c ty q (.p (.int .u32 a)) (.p (.int .u32 b))=.w (.p (.int .u32 (an a b))):=by
 show resI .u32 (an a b)=_
 exact resI_eq _ _
theorem bor_u:bin3 .or c ty q (.p (.int .u32 a)) (.p (.int .u32 b))=.w (.p (.int .u32 (orr a b))):=by
 show resI .u32 (orr a b)=_
 exact resI_eq _ _
theorem band_w:bin3 .and c ty q (.p (.int .u64 a)) (.p (.int .u64 b))=.w (.p (.int .u64 (an64 a b))):=by
 show resI .u64 (an64 a b)=_
 exact resI_eq _ _
theorem opD_unxor{x}:opD (.unOp .xor ty x) c t h=un1 .xor (ev c t x):=(rfl)
theorem unot_u:un1 .xor (.p (.int .u32 a))=.w (.p (.int .u32 (nt a))):=by
 show resI .u32 (nt a)=_
 exact resI_eq _ _
theorem shl_u{n:Nat} (hn:n≤32):bin3 .shl c ty q (.p (.int .u32 a)) (.p (.int .u64 (n:Int)))=.w (.p (.int .u32 (sl32 a n))):=by
 show cond (ltI (n:Int) 0) .no (resI .u32 (wrapF .u32 (a*2 ^ (min n 32))))=_
 rw[ltI_eq,decide_eq_false (by omega),wrapF_eq,Nat.min_eq_left hn]
 exact resI_eq _ _
theorem shr_u{n:Nat} (hn:n≤32):bin3 .shr c ty q (.p (.int .u32 a)) (.p (.int .u64 (n:Int)))=.w (.p (.int .u32 (sr32 a n))):=by
 show cond (ltI (n:Int) 0) .no (resI .u32 (a.fdiv (2 ^ (min n 32))))=_
 rw[ltI_eq,decide_eq_false (by omega),Nat.min_eq_left hn]
 exact resI_eq _ _
theorem shl24:bin3 .shl c ty q (.p (.int .u32 a)) (.p (.int .u64 24))=.w (.p (.int .u32 (sl32 a 24))):=shl_u (n:=24) (by decide)
theorem shl16:bin3 .shl c ty q (.p (.int .u32 a)) (.p (.int .u64 16))=.w (.p (.int .u32 (sl32 a 16))):=shl_u (n:=16) (by decide)
theorem shl8:bin3 .shl c ty q (.p (.int .u32 a)) (.p (.int .u64 8))=.w (.p (.int .u32 (sl32 a 8))):=shl_u (n:=8) (by decide)
theorem shr3:bin3 .shr c ty q (.p (.int .u32 a)) (.p (.int .u64 3))=.w (.p (.int .u32 (sr32 a 3))):=shr_u (n:=3) (by decide)
theorem shr10:bin3 .shr c ty q (.p (.int .u32 a)) (.p (.int .u64 10))=.w (.p (.int .u32 (sr32 a 10))):=shr_u (n:=10) (by decide)
def us(l:List Int):List AV:=l.map fun n=>.p (.int .u32 n)
def up(l:List Int):List PV:=l.map (.int .u32)
theorem us_length(l:List Int):(us l).length=l.length:=List.length_map ..
theorem us_up(l:List Int):us l=(up l).map .p:=by unfold us up;rw[List.map_map];rfl
theorem us_get{l:List Int} {i:Nat} (hi:i<l.length):(us l)[i]?=some (.p (.int .u32 (l.getD i 0))):=by
 unfold us;simp [List.getD,hi]
theorem up_get{l:List Int} {i:Nat} (hi:i<l.length):(up l)[i]?=some (.int .u32 (l.getD i 0)):=by
 unfold up;simp [List.getD,hi]
theorem us_set(l:List Int) (i:Nat) (n:Int):(us l).set i (.p (.int .u32 n))=us (l.set i n):=by
 unfold us;rw[List.map_set]
theorem idx_ptr{n o i:Nat} {ix:Int} (hu:c.under ty=some (.array n e)) (hs:sizeOf? c e=some 1) (h0:0≤ix) (hn:ix<n) :
  indexAddr? c ty (.ptr i o) (.p (.int j ix))=some (.ptr i (o+ix.toNat)):=by
 unfold indexAddr?
 simp only[hu,hs]
 unfold idxArr
 rw[inB_i h0 hn]
 simp only[forceN_eq,Nat.zero_add,Nat.mul_one]
theorem store_one{off i:Nat} {cs:List AV} {v:PV} (hs:sizeOf? c ty=some 1) (hi:hget h i=.cells e cs) (hv:(AV.p v).cells?=some [.p v]) (ho:off<cs.length) :
  store? c h ty (.ptr i off) (.p v)=.ws undefA i (.cells e (cs.set off (.p v))):=by
 unfold store?
 simp only[hs]
 unfold storePtr
 simp only[hv,hi,List.length_cons,List.length_nil,Nat.zero_add,Nat.beq_refl,cond]
 unfold overK
 rw[Nat.ble_eq_true_of_le (show off + [AV.p v].length≤cs.length by simp;omega)]
 simp only[cond,lnf_eq,List.length_cons,List.length_nil,Nat.zero_add]
 congr 2
 rw[List.set_eq_take_append_cons_drop,if_pos ho];rfl
theorem load_part{off i n:Nat} {cs:List AV} (ha:aggT? c ty=some true) (hs:sizeOf? c ty=some n) (hi:hget h i=.cells e cs) (h2:off+n≤cs.length) :
  load? c h ty (.ptr i off)=some (mkAgg ((cs.drop off).take n)):=by
 show loadPtr c h ty i off=_
 unfold loadPtr
 simp only[hi]
 unfold partA?
 simp only[ha,hs]
 unfold subK
 rw[Nat.ble_eq_true_of_le h2]
 simp only[cond,lnf_eq]
theorem index_arr{n:Nat} {ix:Int} {cs:List PV} {v:PV} (hu:c.under ty=some (.array n e)) (hs:sizeOf? c e=some 1) (ha:aggT? c e=some false) (h0:0≤ix) (hn:ix<n) (hv:cs[ix.toNat]?=some v) :
  index? c ty (.p (.agg cs)) (.p (.int j ix))=some (.p v):=by
 unfold index?
 simp only[hu,hs,inB_i h0 hn]
 unfold part?
 simp only[ha,pget_eq,Nat.mul_one,hv]
def nilW(v:AV):VH:=match isNil v with|some false=>.w v|_=>.no
theorem opD_nilCheck{x}:opD (.nilCheck x) c t h=nilW (ev c t x):=(rfl)
theorem nilW_ptr{i o:Nat}:nilW (.ptr i o)=.w (.ptr i o):=(rfl)
theorem cells_up(l:List Int):(PV.agg (up l)).cells.map AV.p=us l:=(us_up l).symm
theorem mkAgg_us(l:List Int):mkAgg (us l)=.p (.agg (up l)):=by rw[us_up];exact mkAgg_p _
theorem hset2_1{a b x:Ob}:hset [a,b] 1 x=[a,x]:=(rfl)
theorem hset3_0{a b c x:Ob}:hset [a,b,c] 0 x=[x,b,c]:=(rfl)
theorem hset3_2{a b c x:Ob}:hset [a,b,c] 2 x=[a,b,x]:=(rfl)
end
theorem ofInt_nat(m:Nat):(BitVec.ofInt 32 (Int.ofNat m)).toNat=m % 4294967296:=by
 rw[show BitVec.ofInt 32 (Int.ofNat m)=BitVec.ofNat 32 m from BitVec.ofInt_natCast ..]
 rw[BitVec.toNat_ofNat]
theorem wrapU_lt{m:Nat} (h:m<4294967296):IntKind.wrap .u32 (m:Int)=Int.ofNat m:=by
 rw[wrapU32_eq]
 show(m:Int) % 4294967296=(m:Int)
 omega
def xrF(a b:Int):Int:=
 match a with
 |.ofNat m=>(match b with | .ofNat n=>.ofNat (Nat.xor (Nat.mod m 4294967296) (Nat.mod n 4294967296))|b=>xr a b)
 |a=>xr a b
theorem xrF_eq(a b:Int):xrF a b=xr a b:=by
 unfold xrF
 split
 ·split
  ·rename_i m n
   unfold xr
   rw[wrapU_lt (BitVec.isLt _),BitVec.toNat_xor,ofInt_nat,ofInt_nat];rfl
  ·rfl
 ·rfl
def anF(a b:Int):Int:=
 match a with
 |.ofNat m=>(match b with | .ofNat n=>.ofNat (Nat.land (Nat.mod m 4294967296) (Nat.mod n 4294967296))|b=>an a b)
 |a=>an a b
theorem anF_eq(a b:Int):anF a b=an a b:=by
 unfold anF
 split
 ·split
  ·rename_i m n
   unfold an
   rw[wrapU_lt (BitVec.isLt _),BitVec.toNat_and,ofInt_nat,ofInt_nat];rfl
  ·rfl
 ·rfl
def orF(a b:Int):Int:=
 match a with
 |.ofNat m=>(match b with | .ofNat n=>.ofNat (Nat.lor (Nat.mod m 4294967296) (Nat.mod n 4294967296))|b=>orr a b)
 |a=>orr a b
theorem orF_eq(a b:Int):orF a b=orr a b:=by
 unfold orF
 split
 ·split
  ·rename_i m n
   unfold orr
   rw[wrapU_lt (BitVec.isLt _),BitVec.toNat_or,ofInt_nat,ofInt_nat];rfl
  ·rfl
 ·rfl
def ntF(a:Int):Int:=xrF (.ofNat 4294967295) a
theorem ntF_eq(a:Int):ntF a=nt a:=xrF_eq _ _
def adF(a b:Int):Int:=wrapF .u32 (Int.add a b)
theorem adF_eq(a b:Int):adF a b=ad a b:=wrapF_eq _ _
def slF(a:Int) (n:Nat):Int:=
 match a with
 |.ofNat m=>.ofNat (Nat.mod (Nat.mul m (Nat.pow 2 n)) 4294967296)
 |a=>sl32 a n
theorem slF_eq(a:Int) (n:Nat):slF a n=sl32 a n:=by
 unfold slF
 split
 ·rename_i m
  unfold sl32
  rw[wrapU32_eq]
  show((m*2 ^ n % 4294967296:Nat):Int)=(m:Int)*2 ^ n % 4294967296
  rw[Int.natCast_emod,Int.natCast_mul,Int.natCast_pow]
  rfl
 ·rfl
def srF(a:Int) (n:Nat):Int:=
 match a with
 |.ofNat m=>.ofNat (Nat.div m (Nat.pow 2 n))
 |a=>sr32 a n
theorem srF_eq(a:Int) (n:Nat):srF a n=sr32 a n:=by
 unfold srF
 split
 ·rename_i m
  unfold sr32
  show((m / 2 ^ n:Nat):Int)=Int.fdiv (m:Int) (2 ^ n)
  rw[Int.fdiv_eq_ediv_of_nonneg _ (by exact Int.le_of_lt (Int.pow_pos (by decide)))]
  rw[Int.natCast_ediv,Int.natCast_pow]
  rfl
 ·rfl
def rotF(a:Int) (n:Nat):Int:=orF (slF a n) (srF a (Nat.sub 32 n))
theorem rotF_eq(a:Int) (n:Nat):rotF a n=rot a n:=by
 unfold rotF rot;rw[orF_eq,slF_eq,srF_eq];rfl
noncomputable def lnfI{R:Type} (l:List Int):(List Int→R)→R:=
 List.rec (motive:=fun _=>(List Int→R)→R) (fun f=>f []) (fun a _ ih f=>forceI a fun a=>ih fun l=>f (a::l)) l
theorem lnfI_eq{R:Type} (l:List Int) (f:List Int→R):lnfI l f=f l:=by
 induction l generalizing f with
 |nil=>rfl
 |cons a l ih=>
  show forceI a (fun a=>lnfI l fun l=>f (a::l))=_
  rw[forceI_eq,ih]
def rdU:Nat→List AV→Option (List Int×List AV)
 |0,l=>some ([],l)
 |n+1,l=>(match l with
  | []=>none
  |v::l=>(match v with
   |.p p=>(match p with
    |.int k x=>cond (Nat.beq (knd k) (knd .u32)) (match rdU n l with|some (xs,r)=>some (x::xs,r)|none=>none) none
    |_=>none)
   |_=>none))
theorem rdU_ok:∀ {n l xs r},rdU n l=some (xs,r)→l=us xs++r∧xs.length=n:=by
 intro n
 induction n with
 |zero=>intro l xs r h;cases h;exact⟨rfl,rfl⟩
 |succ n ih=>
  intro l xs r h
  unfold rdU at h
  split at h
  ·cases h
  ·rename_i v l
   split at h
   ·rename_i p
    split at h
    ·rename_i k x
     cases hk:Nat.beq (knd k) (knd .u32)with
     |false=>rw[hk]at h;cases h
     |true=>
      rw[hk]at h
      have:=knd_inj hk
      subst this
      simp only[cond]at h
      split at h
      ·rename_i ys r' hr
       cases h
       obtain⟨h1,h2⟩:=ih hr
       exact⟨by rw[h1];rfl,by simp [h2]⟩
      ·cases h
    ·cases h
   ·cases h
end Go.Ai
namespace Go.Ai
open Go Go.RowKit
def Ob.same:Ob→Ob→Bool
 |.dead,.dead=>true
 |.cells e cs,.cells e' cs'=>Nat.beq e e'&&AV.sames cs cs'
 |.row e s xs ex g,.row e' s' xs' ex' g'=>Nat.beq e e'&&Nat.beq s s'&&PV.sames xs xs'&&(ex == ex')&&Nat.beq g g'
 |.fr s xs g,.fr s' xs' g'=>Nat.beq s s'&&PV.sames xs xs'&&Nat.beq g g'
 |_,_=>false
def Ob.sames:List Ob→List Ob→Bool
 | [],[]=>true
 |a::l,b::m=>cond (Ob.same a b) (Ob.sames l m) false
 |_,_=>false
theorem Ob.same_eq:∀ (a b:Ob),Ob.same a b=true→a=b:=by
 intro a b h
 cases a<;>cases b<;>first|rfl|(cases h;done)|skip
 ·simp only[Ob.same,Bool.and_eq_true,Nat.beq_eq]at h
  rw[h.1,AV.sames_eq _ _ h.2]
 ·simp only[Ob.same,Bool.and_eq_true,Nat.beq_eq,beq_iff_eq]at h
  obtain⟨⟨⟨⟨h1,h2⟩,h3⟩,h4⟩,h5⟩:=h
  rw[h1,h2,PV.sames_eq _ _ h3,h4,h5]
 ·simp only[Ob.same,Bool.and_eq_true,Nat.beq_eq]at h
  obtain⟨⟨h1,h2⟩,h3⟩:=h
  rw[h1,PV.sames_eq _ _ h2,h3]
theorem Ob.sames_eq:∀ (a b:List Ob),Ob.sames a b=true→a=b:=by
 intro a
 induction a with
 |nil=>intro b h;cases b with|nil=>rfl|cons y b=>cases h
 |cons x a ih=>
  intro b h
  cases b with
  |nil=>cases h
  |cons y b=>
   unfold Ob.sames at h
   cases hs:Ob.same x y with
   |false=>rw[hs]at h;cases h
   |true=>rw[hs]at h;rw[Ob.same_eq _ _ hs,ih b h]
structure Run1 where
 args:List AV
 h:List Ob
 v:AV
 h':List Ob
noncomputable def endIs(x:Option CR) (v:AV) (h':List Ob):Bool:=
 match x with
 |some x=>(match x with | .mk e h r=>(match e with | .ret u=>(match r with|none=>cond (AV.same u v) (Ob.sames h h') false|_=>false)|_=>false))
 |none=>false
theorem endIs_ok{x v h'} (h:endIs x v h'=true):x=some (.mk (.ret v) h' none):=by
 unfold endIs at h
 split at h
 ·rename_i y
  obtain⟨e,h1,r⟩:=y
  cases e with
  |pan u=>cases h
  |ret u=>
   cases r with
   |some m=>cases h
   |none=>
    simp only at h
    cases hu:AV.same u v with
    |false=>rw[hu]at h;cases h
    |true=>rw[hu]at h;rw[AV.same_eq u v hu,Ob.sames_eq _ _ h]
 ·cases h
theorem run1_ok{c:Ctx} {P:Program} {o:Orc} (C:CtxOk c P) (hO:OrcOk c P o) {k:Nat} {F:FuncId} {r:Run1} (h:endIs (callN c o k (.fn F r.args) r.h none) r.v r.h'=true) :
  CallAt c P (.fn F r.args) r.h none (.ret r.v) r.h' none:=callN_ok C hO k _ _ _ _ _ _ (endIs_ok h)
def lookG(args:List AV) (h:List Ob):List Run1→Option (AEnd×List Ob)
 | []=>none
 |r::l=>cond (AV.sames args r.args) (cond (Ob.sames h r.h) (some (.ret r.v,r.h')) (lookG args h l)) (lookG args h l)
noncomputable def memoG(F:Nat) (tab:List Run1) (o:Orc):Orc:=fun f args h=>
 cond (Nat.beq f F) (match lookG args h tab with|some x=>some x|none=>o f args h) (o f args h)
theorem lookG_ok{c:Ctx} {P:Program} {F:Nat} {args h e h'}:∀ {tab:List Run1},(∀ r∈tab,CallAt c P (.fn F r.args) r.h none (.ret r.v) r.h' none)→lookG args h tab=some (e,h')→CallAt c P (.fn F args) h none e h' none:=by
 intro tab
 induction tab with
 |nil=>intro _ hl;cases hl
 |cons r l ih=>
  intro ht hl
  unfold lookG at hl
  cases h1:AV.sames args r.args with
  |false=>rw[h1]at hl;exact ih (fun r hr=>ht r (List.mem_cons_of_mem _ hr)) hl
  |true=>
   rw[h1]at hl
   cases h2:Ob.sames h r.h with
   |false=>rw[h2]at hl;exact ih (fun r hr=>ht r (List.mem_cons_of_mem _ hr)) hl
   |true=>
    rw[h2]at hl
    cases hl
    rw[AV.sames_eq _ _ h1,Ob.sames_eq _ _ h2]
    exact ht r (List.mem_cons_self ..)
theorem memoG_ok{c:Ctx} {P:Program} {F:Nat} {tab:List Run1} {o:Orc} (hO:OrcOk c P o)
  (ht:∀ r∈tab,CallAt c P (.fn F r.args) r.h none (.ret r.v) r.h' none):OrcOk c P (memoG F tab o):=by
 intro f args h e h' ho
 unfold memoG at ho
 cases hf:Nat.beq f F with
 |false=>rw[hf]at ho;exact hO _ _ _ _ _ ho
 |true=>
  rw[hf]at ho
  have:=Nat.eq_of_beq_eq_true hf
  subst this
  simp only[cond]at ho
  split at ho
  ·rename_i x hx
   obtain⟨e1,h1⟩:=x
   cases ho
   exact lookG_ok ht hx
  ·exact hO _ _ _ _ _ ho
end Go.Ai
namespace Go.Ai
open Go
def mvO(a b:Nat):SOp:=⟨none,.move (.tmp a),some b⟩
def asO(a b:Nat):SOp:=⟨none,.assign (.tmp a),some b⟩
def ldO(t a b:Nat):SOp:=⟨none,.load t (.tmp a),some b⟩
def faO(t a i b:Nat):SOp:=⟨none,.fieldAddr t (.tmp a) i,some b⟩
def ncO(a b:Nat):SOp:=⟨none,.nilCheck (.tmp a),some b⟩
section
variable {c:Ctx} {o:Orc} {rd:Option Nat} {Q:Post} {t:Tm} {h:List Ob} {d:List AD} {r:Option RM} {l:List SOp} {x y z w:Nat}
theorem xOps_mv:xOps c o rd (mvO x y::l) Q t h d r=opW c o rd (.move (.tmp x)) (some y) t h d r (opD (.move (.tmp x)) c t h) (xOps c o rd l Q) Q:=xOps_cons
theorem xOps_as:xOps c o rd (asO x y::l) Q t h d r=opW c o rd (.assign (.tmp x)) (some y) t h d r (opD (.assign (.tmp x)) c t h) (xOps c o rd l Q) Q:=xOps_cons
theorem xOps_ld:xOps c o rd (ldO z x y::l) Q t h d r=opW c o rd (.load z (.tmp x)) (some y) t h d r (opD (.load z (.tmp x)) c t h) (xOps c o rd l Q) Q:=xOps_cons
theorem xOps_fa:xOps c o rd (faO z x w y::l) Q t h d r=opW c o rd (.fieldAddr z (.tmp x) w) (some y) t h d r (opD (.fieldAddr z (.tmp x) w) c t h) (xOps c o rd l Q) Q:=xOps_cons
theorem xOps_nc:xOps c o rd (ncO x y::l) Q t h d r=opW c o rd (.nilCheck (.tmp x)) (some y) t h d r (opD (.nilCheck (.tmp x)) c t h) (xOps c o rd l Q) Q:=xOps_cons
end
theorem argT_nil{i t}:argT [] i t=t:=rfl
theorem argT_cons{v l i t}:argT (v::l) i t=argT l (i+1) (t.set i v):=rfl
theorem results_nil{c h t}:results? c h t []=some []:=rfl
theorem results_tmp{c h t i l}:results? c h t (.tmp i::l)=(match results? c h t l with|some m=>some (t.get i::m)|none=>none):=rfl
theorem results_cell{c h t a ty l}:results? c h t (.cell a ty::l)=(match load? c h ty (t.get a),results? c h t l with
 |some v,some m=>some (v::m)
 |_,_=>none):=rfl
theorem vals_one{v}:vals [v]=v:=rfl
theorem vals_nil:vals []=.tup []:=rfl
theorem vals_two{a b l}:vals (a::b::l)=.tup (a::b::l):=rfl
def rwG.{u}:=And.intro @if_true.{u} <| And.intro @if_false.{u} <| And.intro @cond_true.{u} <| And.intro @cond_false.{u} <| And.intro @List.toList_toArray.{u} <| And.intro @ite_true.{u} @ite_false.{u}
def rwI.{u}:=And.intro @List.drop_succ_cons.{u} <| And.intro @List.drop_zero.{u} <| And.intro @List.take_succ_cons.{u} <| And.intro @List.take_zero.{u} <| And.intro @List.drop_nil.{u} @List.take_nil.{u}
def rwA:=And.intro @xOps_mv <| And.intro @xOps_as <| And.intro @xOps_ld <| And.intro @xOps_fa <| And.intro @xOps_nc <| And.intro @xC_skip <| And.intro @xC_reg <| And.intro @xC_seq <| And.intro @seqP_n <| And.intro @seqP_ret <| And.intro @seqP_pan <| And.intro @seqP_exit <| And.intro @xC_cond <| And.intro @condW_true <| And.intro @condW_false <| And.intro @xC_block <| And.intro @blockP_n <| And.intro @blockP_ret <| And.intro @blockP_pan <| And.intro @blockP_exit <| And.intro @loopP_n <| And.intro @loopP_ret <| And.intro @loopP_pan <| And.intro @loopP_exit <| And.intro @xC_exit <| And.intro @xC_ret <| And.intro @xOps_nil <| And.intro @xOps_cons <| And.intro @xOps_guard <| And.intro @gW_tt <| And.intro @gW_tf <| And.intro @gW_ft <| And.intro @gW_ff <| And.intro @gW_un <| And.intro @opW_w <| And.intro @opW_ws <| And.intro @opW_wn <| And.intro @opW_wh <| And.intro @opW_value @opW_panic
def rwB:=And.intro @put_some <| And.intro @put_none <| And.intro @target_fn <| And.intro @ev_tmp <| And.intro @ev_func <| And.intro @ev_int <| And.intro @ev_bool <| And.intro @ev_str <| And.intro @ev_nils <| And.intro @ev_nilp <| And.intro @ev_nili <| And.intro @ev_nilf <| And.intro @evs_nil <| And.intro @evs_cons <| And.intro @evp_nil <| And.intro @evp_cons <| And.intro @evo_none <| And.intro @evo_some <| And.intro @opD_move <| And.intro @opD_assign <| And.intro @opD_pick <| And.intro @pickW_true <| And.intro @pickW_false <| And.intro @pickW_bool <| And.intro @opD_bin <| And.intro @opD_not <| And.intro @opD_conv <| And.intro @opD_load <| And.intro @opD_store <| And.intro @opD_indexAddr <| And.intro @opD_index <| And.intro @opD_fieldAddr <| And.intro @opD_field <| And.intro @opD_extract <| And.intro @opD_len' <| And.intro @len_str <| And.intro @len_nils <| And.intro @len_vec <| And.intro @len_sl <| And.intro @opD_alloc <| And.intro @opD_append' <| And.intro @opD_buildSlice <| And.intro @opD_build <| And.intro @opD_slice' <| And.intro @ofO_some <| And.intro @lss_i <| And.intro @leq_i <| And.intro @gtr_i <| And.intro @geq_i <| And.intro @eql_i <| And.intro @neq_i <| And.intro @add_i <| And.intro @sub_i <| And.intro @mul_i <| And.intro @not_b <| And.intro @eql_s <| And.intro @neq_s <| And.intro @lss_s <| And.intro @leq_s <| And.intro @end_ret <| And.intro @end_n <| And.intro @end_pan <| And.intro @Tm.get_set <| And.intro @argT_nil <| And.intro @argT_cons <| And.intro @Bool.true_eq_false <| And.intro @Bool.false_eq_true <| And.intro @Bool.not_true <| And.intro @Bool.not_false <| And.intro @results_nil <| And.intro @results_tmp <| And.intro @results_cell <| And.intro @vals_one <| And.intro @vals_nil @vals_two
def rwC:=And.intro @xDraw_nil <| And.intro @xDraw_L <| And.intro @xDraw_A <| And.intro @LW_some <| And.intro @x1_none <| And.intro @x1_guard <| And.intro @gL_tt <| And.intro @gL_tf <| And.intro @gL_ft <| And.intro @gL_ff @gL_un
def rwD:=And.intro @blur_nil <| And.intro @blur_cons <| And.intro @slotV_some <| And.intro @toO_w <| And.intro @look_none <| And.intro @look_guard <| And.intro @looksSame_nil <| And.intro @looksSame_cons <| And.intro @pendOk_nil <| And.intro @pendOk_cons <| And.intro @Nat.lt_irrefl <| And.intro @Nat.sub_self <| And.intro @Nat.sub_zero <| And.intro @Nat.zero_sub <| And.intro @true_and <| And.intro @Bool.and_true <| And.intro @Bool.and_self <| And.intro @Nat.zero_lt_one <| And.intro @Nat.not_lt_zero <| And.intro @Nat.le_refl <| And.intro @Nat.zero_le @Nat.zero_add
end Go.Ai

/- What is proved: the interpreter's operations stand for the model's (relation of values and memory; numbers, strings, loads, stores). Conditions: the context is that of the program. -/
import Derived.Test.YtepjcfcfpjhpgaaGreatDoorPA01
import Derived.Below
import Derived.Laws.Sem
import Derived.Laws.Cells
import Derived.Laws.StructEq
import Derived.Laws.Concat
set_option linter.all false
namespace Go.Ai
open Go Go.RowKit
structure Rn where
 a:Nat→Nat→Option (Nat×Nat)
 f:Nat→Option (Array Value)
def cellF(f:Nat→Option (Array Value)) (b o:Nat):Option Value:=
 match f b with
 |some vs=>vs[o]?
 |none=>none
inductive PR (f:Nat→Option (Array Value)):PV→Value→Prop
 |bool (b):PR f (.bool b) (.bool b)
 |int (k n):PR f (.int k n) (.int k n)
 |float (k b):PR f (.float k b) (.float k b)
 |str (s:ByteArray) (l) (h:s.data.toList=l):PR f (.str l) (.string s)
 |nilp:PR f .nilp (.pointer none)
 |nils:PR f .nils (.slice none 0 0)
 |nilm:PR f .nilm (.map none)
 |nilf:PR f .nilf .nilFunc
 |nili:PR f .nili .nilIface
 |fn (g):PR f (.fn g) (.func (.func g) #[] #[])
 |vec {sz xs b off n cap} (c:Nat→Nat→Value) (hn:n=xs.length) (hc:n≤cap)
   (hz:∀ (i:Nat) (x:PV),xs[i]?=some x→x.cells.length=sz)
   (hv:∀ (i:Nat) (x:PV) (j:Nat) (y:PV),xs[i]?=some x→x.cells[j]?=some y→cellF f b (off+i*sz+j)=some (c i j)∧(c i j).oneCell'=true)
   (hp:∀ (i:Nat) (x:PV) (j:Nat) (y:PV),xs[i]?=some x→x.cells[j]?=some y→PR f y (c i j)):PR f (.vec sz xs) (.slice (some ⟨b,off,none⟩) n cap)
 |emp {a}:PR f (.vec 0 []) (.slice (some a) 0 0)
 |agg {cs vs} (hl:cs.length=vs.size) (ho:∀ (i:Nat) (v:Value),vs[i]?=some v→v.oneCell'=true)
   (hp:∀ (i:Nat) x v,cs[i]?=some x→vs[i]?=some v→PR f x v):PR f (.agg cs) (.agg vs)
 |face {t p v} (h:PR f p v):PR f (.face t p) (.iface t v)
def CellsG(f:Nat→Option (Array Value)) (g:Nat→Option Value) (off:Nat) (cs:List PV):Prop:=
 ∀ (j:Nat) (y:PV),cs[j]?=some y→∃ v,g (off+j)=some v∧v.oneCell'=true∧PR f y v
def ElemsG(f:Nat→Option (Array Value)) (g:Nat→Option Value) (off sz:Nat) (xs:List PV):Prop:=
 ∀ (i:Nat) (x:PV),xs[i]?=some x→x.cells.length=sz∧CellsG f g (off+i*sz) x.cells
theorem PR.of_elems{f sz xs b off cap} (hc:xs.length≤cap) (h:ElemsG f (cellF f b) off sz xs) :
  PR f (.vec sz xs) (.slice (some ⟨b,off,none⟩) xs.length cap):=by
 refine .vec (fun i j=>(cellF f b (off+i*sz+j)).getD .nilFunc) rfl hc (fun i x hx=>(h i x hx).1) ?_ ?_
 ·intro i x j y hx hy
  obtain⟨v,hv,ho,_⟩:=(h i x hx).2 j y hy
  simp [hv,ho]
 ·intro i x j y hx hy
  obtain⟨v,hv,ho,hp⟩:=(h i x hx).2 j y hy
  simpa [hv]using hp
theorem PR.elemsG{f sz xs v} (h:PR f (.vec sz xs) v):(sz=0∧xs=[]∧∃ a,v=.slice (some a) 0 0)∨∃ b off cap,v=.slice (some ⟨b,off,none⟩) xs.length cap∧xs.length≤cap∧ElemsG f (cellF f b) off sz xs:=by
 cases h with
 | @vec _ _ b off n cap c hn hc hz hv hp=>
  subst hn
  exact .inr ⟨b,off,cap,rfl,hc,fun i x hx=>⟨hz i x hx,fun j y hy=>⟨_,(hv i x j y hx hy).1,(hv i x j y hx hy).2,hp i x j y hx hy⟩⟩⟩
 | @emp a=>exact .inl ⟨rfl,rfl,a,rfl⟩
theorem PR.elems{f sz xs v} (h:PR f (.vec sz xs) v) (h0:0<sz∨xs ≠ []):∃ b off cap,v=.slice (some ⟨b,off,none⟩) xs.length cap∧xs.length≤cap∧ElemsG f (cellF f b) off sz xs:=by
 rcases h.elemsG with⟨h1,h2,_⟩|h
 ·rcases h0 with q|q
  ·omega
  ·exact absurd h2 q
 ·exact h
theorem PR.elems0{f sz xs v} (h:PR f (.vec sz xs) v):∃ a cap,v=.slice (some a) xs.length cap:=by
 rcases h.elemsG with⟨_,rfl,a,rfl⟩|⟨b,off,cap,rfl,_⟩
 ·exact⟨a,0,rfl⟩
 ·exact⟨_,_,rfl⟩
inductive VR (E:Rn):AV→Value→Prop
 |un (v):VR E .un v
 |p {q v} (h:PR E.f q v):VR E (.p q) v
 |ptr {i off b n} (h:E.a i 0=some (b,n)):VR E (.ptr i off) (.pointer (some ⟨b,off,none⟩))
 |cptr {q b off} (h:CellsG E.f (cellF E.f b) off q.cells):VR E (.cptr q) (.pointer (some ⟨b,off,none⟩))
 |sl {i g sz off len b n cap} (h:E.a i g=some (b,n)) (hc:(off+cap)*sz=n) (hl:len≤cap) (hs:0<sz) :
   VR E (.sl i g sz off len) (.slice (some ⟨b,off*sz,none⟩) len cap)
 |el {i g sz k o b n} (h:E.a i g=some (b,n)):VR E (.el i g sz k o) (.pointer (some ⟨b,k*sz+o,none⟩))
 |asl {i off len sz b n cap} (h:E.a i 0=some (b,n)) (hl:len≤cap):VR E (.asl i off len sz) (.slice (some ⟨b,off,none⟩) len cap)
 |full {sz xs v} (h:PR E.f (.vec sz xs) v) (hc:∀ a n c,v=.slice a n c→c=n):VR E (.full sz xs) v
 |func {f first cap first' cap'} (h1:first.length=first'.size) (h2:cap.length=cap'.size)
   (h3:∀ (i:Nat) x v,first[i]?=some x→first'[i]?=some v→VR E x v) (h4:∀ (i:Nat) x v,cap[i]?=some x→cap'[i]?=some v→VR E x v) :
   VR E (.func f first cap) (.func (.func f) first' cap')
 |yield {i b n} (h:E.a i 0=some (b,n)):VR E (.yield i) (.func (.yield b) #[] #[])
 |face {t x v} (h:VR E x v):VR E (.face t x) (.iface t v)
 |agg {cs vs} (hl:cs.length=vs.size) (ho:∀ (i:Nat) (v:Value),vs[i]?=some v→v.oneCell'=true)
   (hp:∀ (i:Nat) x v,cs[i]?=some x→vs[i]?=some v→VR E x v):VR E (.agg cs) (.agg vs)
 |tup {cs vs} (hl:cs.length=vs.size) (hp:∀ (i:Nat) x v,cs[i]?=some x→vs[i]?=some v→VR E x v):VR E (.tup cs) (.tuple vs)
 |map {i b n} (h:E.a i 0=some (b,n)):VR E (.map i) (.map (some b))
def LR(E:Rn) (l:List AV) (vs:List Value):Prop:=
 l.length=vs.length∧∀ (i:Nat) x v,l[i]?=some x→vs[i]?=some v→VR E x v
def CR'(E:Rn) (l:List AV) (vs:List Value):Prop:=
 LR E l vs∧∀ v∈vs,v.oneCell'=true
def TR(E:Rn) (t:Tm) (vs:Array Value):Prop:=∀ i,VR E (t.get i) (vs.getD i undef)
def soft(z:Nat×Nat) (n:Nat):Prop:=∀ o,o<n→¬(z.1≤o∧o<z.2)
def softR(e:TypeId) (z:Nat×Nat) (n:Nat):Prop:=soft z n∧(e ≠ 5→¬(z.1≤n∧n<z.2))
theorem soft00(e n):softR e (0,0) n:=⟨fun o _=>by omega,fun _=>by omega⟩
inductive ADR (E:Rn):AD→Deferred→Prop
 |fn {f args cap as} (h:LR E args (as++cap).toList):ADR E (.fn f args) {target:=.fn (.func f) cap,args:=as}
 |coll {i b n} (h:E.a i 0=some (b,n)):ADR E (.coll i) {target:=.collected b,args:=#[]}
inductive OR (E:Rn):Ob→Nat→Nat→Option Obj→Prop
 |dead {b n x}:OR E .dead b n x
 |cells {e cs b n vs z} (hs:vs.size=n) (hz:soft z n) (h:CR' E cs vs.toList):OR E (.cells e cs) b n (some (.cells vs e z))
 |row {e sz xs ex g b n vs z} (hs:vs.size=n) (hz:softR e z n) (h0:0<sz) (hn:xs.length*sz≤n) (he:ex=true→n=xs.length*sz) (h:ElemsG E.f (fun o=>vs[o]?) 0 sz xs) :
   OR E (.row e sz xs ex g) b n (some (.cells vs e z))
 |fr {sz xs g b n x} (h0:0<sz) (hn:xs.length*sz≤n) (h:ElemsG E.f (cellF E.f b) 0 sz xs):OR E (.fr sz xs g) b n x
 |map {es b n es' clock} (hs:es.length=es'.size) (hk:clock=es'.size∧∀ (i:Nat) (y:MapEntry),es'[i]?=some y→y.born=i) (h:∀ (i:Nat) (x:PV×PV) (y:MapEntry),es[i]?=some x→es'[i]?=some y→PR E.f x.1 y.key∧PR E.f x.2 y.val) :
   OR E (.map es) b n (some (.map es' clock))
 |loop {st p fn nt t ps a bd df b n} {L:Loop} (h1:L.state=st) (h2:L.pending=p) (h3:L.fn=fn) (h4:L.tmps.size=nt) (h5:TR E t L.tmps) (h6:L.params.toList=ps)
   (h7:L.assign=a) (h8:L.body=bd) (h9:∃ m,E.a df 0=some (L.defers,m)):OR E (.loop (.mk st p fn nt t ps a bd df)) b n (some (.loop L))
 |iter0 {k sn b n}:OR E (.iter none k sn) b n (some (.mapIter none 0 #[] 0))
 |iter {i k sn b n b' m last} (h:E.a i 0=some (b',m)) (hl:sn=true→last=1):OR E (.iter (some i) k sn) b n (some (.mapIter (some b') k (if sn then #[0]else #[]) last))
 |defd {b n tk}:OR E (.defd tk) b n (some (.deferred (if tk then none else some [])))
def Ob.isDead:Ob→Bool
 |.dead=>true
 |_=>false
def Ob.soft:Ob→Bool
 |.dead=>false
 |.fr _ _ _=>false
 |_=>true
structure WR (E:Rn) (h:List Ob) (w:World):Prop where
 bnd:∀ i g b n,E.a i g=some (b,n)→b<w.heap.size
 frz:∀ b vs,E.f b=some vs→∃ e z,w.heap[b]?=some (.cells vs e z)
 obj:∀ i b n,i<h.length→E.a i (obGen (hget h i))=some (b,n)→OR E (hget h i) b n w.heap[b]?
 own:∀ i b n,i<h.length→E.a i (obGen (hget h i))=some (b,n)→(hget h i).soft=true→E.f b=none
 inj:∀ i j b n m,i<h.length→j<h.length→E.a i (obGen (hget h i))=some (b,n)→E.a j (obGen (hget h j))=some (b,m) →
  (hget h i).isDead=false→(hget h j).isDead=false→i=j
 old:∀ i g,i<h.length→obGen (hget h i)<g→E.a i g=none
 new:∀ i g,h.length≤i→E.a i g=none
 cur:∀ i g x,i<h.length→E.a i g=some x→∃ y,E.a i (obGen (hget h i))=some y
structure Rn.le (E E':Rn):Prop where
 a:∀ i g x,E.a i g=some x→E'.a i g=some x
 f:∀ b x,E.f b=some x→E'.f b=some x
structure Keep (E:Rn) (h:List Ob) (w w':World):Prop where
 os:w'.os=w.os
 tape:w'.tape=w.tape
 output:w'.output=w.output
 size:w.heap.size≤w'.heap.size
 block:∀ b,b<w.heap.size→(∀ i n,i<h.length→(hget h i).soft=true→E.a i (obGen (hget h i)) ≠ some (b,n))→w'.heap[b]?=w.heap[b]?
theorem Rn.le_refl(E:Rn):E.le E:=⟨fun _ _ _ h=>h,fun _ _ h=>h⟩
theorem Rn.le_trans{E E' E'':Rn} (h:E.le E') (h':E'.le E''):E.le E'':=⟨fun _ _ _ x=>h'.a _ _ _ (h.a _ _ _ x),fun _ _ x=>h'.f _ _ (h.f _ _ x)⟩
theorem cellF_mono{f f':Nat→Option (Array Value)} (h:∀ b x,f b=some x→f' b=some x) {b o v} (hv:cellF f b o=some v):cellF f' b o=some v:=by
 unfold cellF at *
 cases hf:f b with
 |none=>simp [hf]at hv
 |some vs=>rw[h _ _ hf];simpa [hf]using hv
theorem PR.mono{f f':Nat→Option (Array Value)} (h:∀ b x,f b=some x→f' b=some x) {q v} (hp:PR f q v):PR f' q v:=by
 induction hp with
 |vec c hn hc hz hv hp ih=>exact .vec c hn hc hz (fun i x j y hx hy=>⟨cellF_mono h (hv i x j y hx hy).1,(hv i x j y hx hy).2⟩) ih
 |emp=>exact .emp
 |agg hl ho hp ih=>exact .agg hl ho ih
 |face _ ih=>exact .face ih
 |bool=>exact .bool _
 |int=>exact .int _ _
 |float=>exact .float _ _
 |str s l h=>exact .str s l h
 |nilp=>exact .nilp
 |nils=>exact .nils
 |nilm=>exact .nilm
 |nilf=>exact .nilf
 |nili=>exact .nili
 |fn g=>exact .fn g
theorem CellsG.mono{f f':Nat→Option (Array Value)} (h:∀ b x,f b=some x→f' b=some x) {g g':Nat→Option Value} (hg:∀ o v,g o=some v→g' o=some v) {off cs}
  (hc:CellsG f g off cs):CellsG f' g' off cs:=fun j y hy=>let⟨v,h1,h2,h3⟩:=hc j y hy;⟨v,hg _ _ h1,h2,h3.mono h⟩
theorem ElemsG.mono{f f':Nat→Option (Array Value)} (h:∀ b x,f b=some x→f' b=some x) {g g':Nat→Option Value} (hg:∀ o v,g o=some v→g' o=some v) {off sz xs}
  (hc:ElemsG f g off sz xs):ElemsG f' g' off sz xs:=fun i x hx=>⟨(hc i x hx).1,(hc i x hx).2.mono h hg⟩
theorem VR.mono{E E':Rn} (h:E.le E') {x v} (hv:VR E x v):VR E' x v:=by
 induction hv with
 |un v=>exact .un v
 |p hp=>exact .p (hp.mono h.f)
 |ptr ha=>exact .ptr (h.a _ _ _ ha)
 |cptr hc=>exact .cptr (hc.mono h.f fun _ _ hx=>cellF_mono h.f hx)
 |sl ha hc hl hs=>exact .sl (h.a _ _ _ ha) hc hl hs
 |el ha=>exact .el (h.a _ _ _ ha)
 |asl ha hl=>exact .asl (h.a _ _ _ ha) hl
 |full hp hc=>exact .full (hp.mono h.f) hc
 |func h1 h2 h3 h4 ih3 ih4=>exact .func h1 h2 ih3 ih4
 |yield ha=>exact .yield (h.a _ _ _ ha)
 |face _ ih=>exact .face ih
 |agg hl ho hp ih=>exact .agg hl ho ih
 |tup hl hp ih=>exact .tup hl ih
 |map ha=>exact .map (h.a _ _ _ ha)
theorem LR.mono{E E':Rn} (h:E.le E') {l vs} (hl:LR E l vs):LR E' l vs:=⟨hl.1,fun i x v hx hv=>(hl.2 i x v hx hv).mono h⟩
theorem CR'.mono{E E':Rn} (h:E.le E') {l vs} (hl:CR' E l vs):CR' E' l vs:=⟨hl.1.mono h,hl.2⟩
theorem TR.mono{E E':Rn} (h:E.le E') {t vs} (ht:TR E t vs):TR E' t vs:=fun i=>(ht i).mono h
theorem ADR.mono{E E':Rn} (h:E.le E') {x d} (hd:ADR E x d):ADR E' x d:=by
 cases hd with
 |fn hl=>exact .fn (hl.mono h)
 |coll ha=>exact .coll (h.a _ _ _ ha)
theorem OR.mono{E E':Rn} (h:E.le E') {o b n x} (ho:OR E o b n x):OR E' o b n x:=by
 cases ho with
 |dead=>exact .dead
 |cells hs hz hc=>exact .cells hs hz (hc.mono h)
 |row hs hz h0 hn he hx=>exact .row hs hz h0 hn he (hx.mono h.f fun _ _ hx=>hx)
 |fr h0 hn hx=>exact .fr h0 hn (hx.mono h.f fun _ _ hx=>cellF_mono h.f hx)
 |map hs hk hm=>exact .map hs hk fun i x y hx hy=>⟨(hm i x y hx hy).1.mono h.f,(hm i x y hx hy).2.mono h.f⟩
 |loop h1 h2 h3 h4 h5 h6 h7 h8 h9=>obtain⟨m,hm⟩:=h9;exact .loop h1 h2 h3 h4 (h5.mono h) h6 h7 h8 ⟨m,h.a _ _ _ hm⟩
 |defd=>exact .defd
 |iter0=>exact .iter0
 |iter ha hl=>exact .iter (h.a _ _ _ ha) hl
theorem Keep.refl(E:Rn) (h:List Ob) (w:World):Keep E h w w:=⟨rfl,rfl,rfl,Nat.le_refl _,fun _ _ _=>rfl⟩
theorem hget_eq(h:List Ob):∀ n,hget h n=(h[n]?).getD .dead:=by
 induction h with
 |nil=>intro n;rfl
 |cons o l ih=>
  intro n
  cases n with
  |zero=>rfl
  |succ n=>show hget l n=_;rw[ih];simp
theorem hset_eq(h:List Ob):∀ n o,hset h n o=h.set n o:=by
 induction h with
 |nil=>intro n o;rfl
 |cons x l ih=>
  intro n o
  cases n with
  |zero=>rfl
  |succ n=>show x::hset l n o=_;rw[ih];rfl
theorem pget_eq(l:List PV):∀ n,pget l n=l[n]?:=by
 induction l with
 |nil=>intro n;rfl
 |cons x l ih=>
  intro n
  cases n with
  |zero=>rfl
  |succ n=>show pget l n=_;rw[ih];simp
theorem aget_eq(l:List AV):∀ n,aget l n=l[n]?:=by
 induction l with
 |nil=>intro n;rfl
 |cons x l ih=>
  intro n
  cases n with
  |zero=>rfl
  |succ n=>show aget l n=_;rw[ih];simp
@[simp] theorem hset_length(h:List Ob) (n:Nat) (o:Ob):(hset h n o).length=h.length:=by simp [hset_eq]
theorem hget_hset(h:List Ob) (n i:Nat) (o:Ob) (hn:n<h.length):hget (hset h n o) i=if i=n then o else hget h i:=by
 rw[hget_eq,hget_eq,hset_eq]
 by_cases e:i=n
 ·subst e;simp [hn]
 ·simp [e,Ne.symm e]
theorem hget_app(h:List Ob) (o:Ob) (i:Nat) (hi:i<h.length):hget (h++[o]) i=hget h i:=by
 rw[hget_eq,hget_eq,List.getElem?_append_left hi]
theorem hget_new(h:List Ob) (o:Ob):hget (h++[o]) h.length=o:=by
 rw[hget_eq];simp
theorem lt_of_hget{h:List Ob} {i:Nat} (hd:(hget h i).isDead=false):i<h.length:=by
 rw[hget_eq]at hd
 by_cases hi:i<h.length
 ·exact hi
 ·simp [List.getElem?_eq_none (Nat.le_of_not_lt hi),Ob.isDead]at hd
def ExtK.entry(fn:Func):ExtK→Array Value→Sem Value
 |.same=>Extern.AbiNoEscape.same
 |.sqrt=>Extern.MathSqrt.sqrt
 |.bits=>Extern.MathFloatBits.float64bits
 |.frombits=>Extern.MathFloatBits.float64frombits
 |.overlaps=>Extern.SlicesOverlaps.overlaps fn.params fn.resultTypes
structure CtxOk (c:Ctx) (P:Program):Prop where
 fn:∀ f x,c.fn f=some x→P.funcs[f]?=some x
 info:∀ t i,c.info t=some i→P.info? t=some i
 under:∀ t d,c.under t=some d→P.underlying t=some d
 lies:∀ e n o u,c.lies e n o u=true→liesAt P P.depth e (n / P.cellsOf e) o u 1=true
 same:∀ e u,c.same e u=true→sameLayout P P.depth e u=true
 plain:∀ t,c.plain t=true→P.eqGuardType P.depth t=false∧∀ fs,P.underlying t=some (.struct fs)→P.stoodInHeld t=false
 mixed:P.follows .mixedOrders=true
 ext:∀ f k,c.ext f=some k→∃ fn,P.funcs[f]?=some fn∧(fn.name == "runtime.NumGoroutine")=false∧fn.body.isNone=true∧Extern.findNext fn=none∧Extern.find fn=some (k.entry fn) ∧
  (k=.overlaps→∃ t e sz,fn.params[0]?=some t∧c.under t=some (.slice e)∧sizeOf? c e=some sz)
 named:∀ f x,c.fn f=some x→(x.name == "runtime.NumGoroutine")=false
def GR(c:Ctx) (E:Rn):Prop:=∀ g q,c.glob g=some q→VR E (.cptr q) (.pointer (some ⟨g,0,none⟩))
theorem GR.mono{c E E'} (h:GR c E) (hl:E.le E'):GR c E':=fun g q hq=>(h g q hq).mono hl
section
variable {c:Ctx} {P:Program} (C:CtxOk c P)
include C
theorem run_sizeOf{t n} (h:sizeOf? c t=some n) (w:World):(sizeOf t).run P w=.ok n w:=by
 unfold sizeOf? at h
 cases hi:c.info t with
 |none=>simp [hi]at h
 |some i=>
  simp only[hi,Option.some.injEq]at h
  simp [sizeOf,typeInfo,C.info _ _ hi,h]
theorem run_typeInfo{t i} (h:c.info t=some i) (w:World):(typeInfo t).run P w=.ok i w:=by
 simp [typeInfo,C.info _ _ h]
theorem run_underlying{t d} (h:c.under t=some d) (w:World):(underlying t).run P w=.ok d w:=by
 simp [underlying,C.under _ _ h]
theorem run_isAgg{t b} (h:aggT? c t=some b) (w:World):(isAgg t).run P w=.ok b w:=by
 unfold aggT? at h
 cases hi:c.under t with
 |none=>simp [hi]at h
 |some d=>
  simp only[hi,Option.some.injEq]at h
  subst h
  simp only[isAgg,Sem.run_bind,run_underlying C hi,Result.andThen_ok]
  cases d<;>rfl
end
theorem okVs_one:∀ (l:List Value),okVs l=true→∀ v∈l,v.oneCell'=true:=by
 intro l
 induction l with
 |nil=>intro _ v hv;simp at hv
 |cons x l ih=>
  intro h v hv
  simp only[okVs,Bool.and_eq_true]at h
  rcases List.mem_cons.1 hv with rfl|hv
  ·cases v<;>simp_all [Value.oneCell',okV]
  ·exact ih h.2.2 v hv
mutual
theorem PR.ofV(f):∀ (v:Value),okV v=true→PR f (ofV v) v
 |.bool b,_=>.bool b
 |.int k n,_=>.int k n
 |.float k b,_=>.float k b
 |.string s,_=>.str s _ rfl
 |.nilFunc,_=>.nilf
 |.nilIface,_=>.nili
 |.pointer a,h=>by
  have:a=none:=by simpa [okV]using h
  subst this;exact .nilp
 |.slice a n c,h=>by
  simp only[okV,Bool.and_eq_true,Nat.beq_eq]at h
  obtain⟨⟨h1,h2⟩,h3⟩:=h
  have:a=none:=by simpa using h1
  subst this;subst h2;subst h3;exact .nils
 |.map a,h=>by
  have:a=none:=by simpa [okV]using h
  subst this;exact .nilm
 |.func g a b,h=>by
  cases g with
  |func g=>
   simp only[okV,Bool.and_eq_true,List.isEmpty_iff,Array.toList_eq_nil_iff]at h
   obtain⟨rfl,rfl⟩:=h
   exact .fn g
  |_=>simp [okV]at h
 |.iface t v,h=>.face (PR.ofV f v (by simpa [okV]using h))
 |.agg cs,h=>by
  have h':okVs cs.toList=true:=by simpa [okV]using h
  obtain⟨h1,h2⟩:=PR.ofVs f cs.toList h'
  refine .agg (by simpa using h1) ?_ ?_
  ·intro i v hv
   exact okVs_one _ h' v (by
    have:cs.toList[i]?=some v:=by simpa using hv
    exact List.mem_of_getElem? this)
  ·intro i x v hx hv
   exact h2 i x v hx (by simpa using hv)
 |.complex _ _ _,h=>by simp [okV]at h
 |.chan _,h=>by simp [okV]at h
 |.tuple _,h=>by simp [okV]at h
theorem PR.ofVs(f):∀ (l:List Value),okVs l=true→(Ai.ofVs l).length=l.length∧∀ (i:Nat) x v,(Ai.ofVs l)[i]?=some x→l[i]?=some v→PR f x v
 | [],_=>by simp [Ai.ofVs]
 |v::l,h=>by
  simp only[okVs,Bool.and_eq_true]at h
  obtain⟨h1,h2⟩:=PR.ofVs f l h.2.2
  refine⟨by simp [Ai.ofVs,h1],?_⟩
  intro i x u hx hu
  cases i with
  |zero=>
   simp only[Ai.ofVs,List.getElem?_cons_zero,Option.some.injEq]at hx hu
   subst hx;subst hu
   exact PR.ofV f v h.2.1
  |succ i=>exact h2 i x u (by simpa [Ai.ofVs]using hx) (by simpa using hu)
end
theorem VR.cst(E:Rn) (v:Value):VR E (cst v) v:=by
 unfold Ai.cst
 split
 ·exact .p (.int _ _)
 ·exact .p (.bool _)
 ·cases h:okV v with
  |true=>exact .p (PR.ofV _ v h)
  |false=>exact .un v
theorem ev_ok{c E t} {a:Act} (hg:GR c E) (ht:TR E t a.tmps) (x:Operand):VR E (ev c t x) (a.eval x):=by
 cases x with
 |tmp i=>exact ht i
 |const v=>exact VR.cst E v
 |global g=>
  show VR E (match c.glob g with|some p=>AV.cptr p|none=>.un) (.pointer (some ⟨g,0,none⟩))
  cases hq:c.glob g with
  |none=>exact .un _
  |some q=>exact hg g q hq
 |func f=>exact .p (.fn f)
theorem addr_add(b o n:Nat):(⟨b,o,none⟩:Addr).add n=⟨b,o+n,none⟩:=by
 unfold Addr.add;split
 ·subst_vars;rfl
 ·rfl
theorem cell_cells{w:World} {b:Nat} {vs:Array Value} {e:TypeId} {z:Nat×Nat} (h:w.heap[b]?=some (.cells vs e z)) (o:Nat):w.cell? ⟨b,o,none⟩=vs[o]?:=by
 simp [World.cell?,h]
theorem PR.agg_inv{f cs v} (h:PR f (.agg cs) v):∃ vs,v=.agg vs∧cs.length=vs.size∧(∀ (i:Nat) (v:Value),vs[i]?=some v→v.oneCell'=true) ∧
  (∀ (i:Nat) x v,cs[i]?=some x→vs[i]?=some v→PR f x v):=by
 cases h with
 |agg hl ho hp=>exact⟨_,rfl,hl,ho,hp⟩
theorem VR.agg_inv{E cs v} (h:VR E (.agg cs) v):∃ vs,v=.agg vs∧cs.length=vs.size∧(∀ (i:Nat) (v:Value),vs[i]?=some v→v.oneCell'=true) ∧
  (∀ (i:Nat) x v,cs[i]?=some x→vs[i]?=some v→VR E x v):=by
 cases h with
 |agg hl ho hp=>exact⟨_,rfl,hl,ho,hp⟩
theorem PR.one{f p v} (h:PR f p v) (hp:∀ cs,p ≠ .agg cs):v.oneCell'=true∧v.cells = #[v]:=by
 cases h with
 |agg hl ho hp'=>exact absurd rfl (hp _)
 |_=>exact⟨rfl,rfl⟩
theorem CR'.of_p{E:Rn} {cs:List PV} {vs:List Value} (hl:cs.length=vs.length) (ho:∀ v∈vs,v.oneCell'=true)
  (hp:∀ (i:Nat) x v,cs[i]?=some x→vs[i]?=some v→PR E.f x v):CR' E (cs.map .p) vs:=by
 refine⟨⟨by simpa using hl,?_⟩,ho⟩
 intro i x v hx hv
 rw[List.getElem?_map]at hx
 cases hc:cs[i]? with
 |none=>simp [hc]at hx
 |some y=>
  simp only[hc,Option.map_some,Option.some.injEq]at hx
  subst hx
  exact .p (hp i y v hc hv)
theorem cells_ok{E x v l} (h:VR E x v) (hx:x.cells?=some l):CR' E l v.cells.toList:=by
 cases h with
 |un=>simp [AV.cells?]at hx
 | @p q v hp=>
  simp only[AV.cells?,Option.some.injEq]at hx
  subst hx
  by_cases hq:∃ cs,q=.agg cs
  ·obtain⟨cs,rfl⟩:=hq
   obtain⟨vs,rfl,hl,ho,hp'⟩:=hp.agg_inv
   refine CR'.of_p (by simpa [PV.cells,Value.cells]using hl) ?_ ?_
   ·intro v hv
    obtain⟨i,hi⟩:=List.getElem?_of_mem hv
    exact ho i v (by simpa [Value.cells]using hi)
   ·intro i x v hx hv
    exact hp' i x v hx (by simpa [Value.cells]using hv)
  ·have hq':∀ cs,q ≠ .agg cs:=fun cs e=>hq ⟨cs,e⟩
   obtain⟨h1,h2⟩:=hp.one hq'
   have hc:q.cells=[q]:=by cases q<;>first|rfl|exact absurd rfl (hq' _)
   rw[h2,hc]
   refine CR'.of_p rfl (by simpa using h1) ?_
   intro i x v hx hv
   cases i with
   |zero=>simp only[List.getElem?_cons_zero,Option.some.injEq]at hx hv;subst hx;subst hv;exact hp
   |succ i=>simp at hx
 |agg hl ho hp=>
  simp only[AV.cells?,Option.some.injEq]at hx
  subst hx
  refine⟨⟨by simpa [Value.cells]using hl,?_⟩,?_⟩
  ·intro i x v hx hv
   exact hp i x v hx (by simpa [Value.cells]using hv)
  ·intro v hv
   obtain⟨i,hi⟩:=List.getElem?_of_mem hv
   exact ho i v (by simpa [Value.cells]using hi)
 |tup hl hp=>simp [AV.cells?]at hx
 |full h hc=>
  simp only[AV.cells?,Option.some.injEq]at hx
  subst hx
  obtain⟨a,cap,rfl⟩:=h.elems0
  refine⟨⟨rfl,?_⟩,by simp [Value.cells,Value.oneCell']⟩
  intro i x v hx hv
  cases i with
  |zero=>simp only[Value.cells,List.getElem?_cons_zero,Option.some.injEq]at hx hv;subst hx;subst hv;exact .full h hc
  |succ i=>simp at hx
 |_=>
  simp only[AV.cells?,Option.some.injEq]at hx
  subst hx
  refine⟨⟨rfl,?_⟩,by simp [Value.cells,Value.oneCell']⟩
  intro i x v hx hv
  cases i with
  |zero=>
   simp only[Value.cells,List.getElem?_cons_zero,Option.some.injEq]at hx hv;subst hx;subst hv
   constructor<;>assumption
  |succ i=>simp at hx
theorem allP_ok{l:List AV}:∀ {ps},allP l=some ps→l=ps.map .p:=by
 induction l with
 |nil=>intro ps h;simp [allP]at h;subst h;rfl
 |cons x l ih=>
  intro ps h
  cases x with
  |p q=>
   simp only[allP]at h
   cases hl:allP l with
   |none=>simp [hl]at h
   |some m=>
    simp only[hl,Option.some.injEq]at h
    subst h
    simp [ih hl]
  |_=>simp [allP]at h
theorem VR.p_inv{E q v} (h:VR E (.p q) v):PR E.f q v:=by cases h with|p h=>exact h
theorem mkAgg_ok{E m} {vs:Array Value} (h:CR' E m vs.toList):VR E (mkAgg m) (.agg vs):=by
 have ho:∀ (i:Nat) (v:Value),vs[i]?=some v→v.oneCell'=true:=fun i v hv=>h.2 v (List.mem_of_getElem? (i:=i) (by simpa using hv))
 unfold mkAgg
 cases hp:allP m with
 |none=>
  refine .agg (by simpa using h.1.1) ho ?_
  intro i x v hx hv
  exact h.1.2 i x v hx (by simpa using hv)
 |some ps=>
  have hm:=allP_ok hp
  refine .p (.agg (by have:=h.1.1;rw[hm]at this;simpa using this) ho ?_)
  intro i x v hx hv
  have:=h.1.2 i (.p x) v (by rw[hm];simp [hx]) (by simpa using hv)
  exact this.p_inv
theorem CR'.sub{E l vs} (h:CR' E l vs) (off n:Nat):CR' E ((l.drop off).take n) ((vs.drop off).take n):=by
 refine⟨⟨by simp [h.1.1],?_⟩,fun v hv=>h.2 v (List.mem_of_mem_drop (List.mem_of_mem_take hv))⟩
 intro i x v hx hv
 rw[List.getElem?_take]at hx hv
 split at hx
 ·rename_i hi
  simp only[hi,if_true,List.getElem?_drop]at hx hv
  exact h.1.2 _ x v hx hv
 ·simp at hx
theorem subK_some{α R:Type} {l:List α} {off n:Nat} {g:List α→Option R} {r:R} (h:subK l off n g none=some r) :
  off+n≤l.length∧g ((l.drop off).take n)=some r:=by
 unfold subK at h
 cases hb:Nat.ble (off+n) l.length with
 |false=>simp [hb]at h
 |true=>rw[hb]at h;simp only[cond,lnf_eq]at h;exact⟨Nat.le_of_ble_eq_true hb,h⟩
theorem run_loadVar_agg{c P} (C:CtxOk c P) {w:World} {t n b off} {vs:List Value} (ha:aggT? c t=some true) (hs:sizeOf? c t=some n) (hl:vs.length=n)
  (hv:∀ (j:Nat) v,vs[j]?=some v→w.cell? ⟨b,off+j,none⟩=some v):(loadVar t ⟨b,off,none⟩).run P w=.ok (.agg vs.toArray) w:=by
 unfold loadVar
 simp only[Sem.run_bind,run_isAgg C ha,Result.andThen_ok,if_true,run_sizeOf C hs]
 rw[← hl,run_loadCells_list w ⟨b,off,none⟩ vs (fun j v hj=>by rw[addr_add];exact hv j v hj)]
 simp
theorem run_loadVar_one{c P} (C:CtxOk c P) {w:World} {t b off} {v:Value} (ha:aggT? c t=some false)
  (hv:w.cell? ⟨b,off,none⟩=some v):(loadVar t ⟨b,off,none⟩).run P w=.ok v w:=by
 unfold loadVar
 simp [run_isAgg C ha,hv]
def Rn.put(E:Rn) (i g:Nat) (x:Nat×Nat):Rn:={E with a:=fun j k=>if j=i∧k=g then some x else E.a j k}
def Rn.frz(E:Rn) (b:Nat) (vs:Array Value):Rn:={E with f:=fun k=>if k=b then some vs else E.f k}
theorem Rn.le_put{E:Rn} {i g x} (h:E.a i g=none):E.le (E.put i g x):=by
 refine⟨fun j k y hy=>?_,fun _ _ h=>h⟩
 show(if j=i∧k=g then some x else E.a j k)=some y
 split
 ·rename_i e;obtain⟨rfl,rfl⟩:=e;rw[h]at hy;cases hy
 ·exact hy
theorem Rn.le_frz{E:Rn} {b vs} (h:E.f b=none):E.le (E.frz b vs):=by
 refine⟨fun _ _ _ h=>h,fun k y hy=>?_⟩
 show(if k=b then some vs else E.f k)=some y
 split
 ·subst_vars;rw[h]at hy;cases hy
 ·exact hy
theorem Ob.isDead_of_soft{o:Ob} (h:o.soft=true):o.isDead=false:=by cases o<;>simp_all [Ob.soft,Ob.isDead]
theorem WR.push{E h w} (W:WR E h w) {o:Ob} {x:Obj} {n:Nat} (hg:obGen o=0) (ho:OR E o w.heap.size n (some x)) :
  E.le (E.put h.length 0 (w.heap.size,n))∧WR (E.put h.length 0 (w.heap.size,n)) (h++[o]) {w with heap:=w.heap.push x}∧Keep E h w {w with heap:=w.heap.push x}:=by
 have hle:E.le (E.put h.length 0 (w.heap.size,n)):=Rn.le_put (W.new _ _ (Nat.le_refl _))
 have hpush:∀ b,b<w.heap.size→(w.heap.push x)[b]?=w.heap[b]?:=fun b hb=>by rw[Array.getElem?_push,if_neg (by omega)]
 have hput:∀ i g,i<h.length→(E.put h.length 0 (w.heap.size,n)).a i g=E.a i g:=fun i g hi=>by
  show(if i=h.length∧g=0 then some (w.heap.size,n)else E.a i g)=_
  rw[if_neg (by omega)]
 have hself:(E.put h.length 0 (w.heap.size,n)).a h.length 0=some (w.heap.size,n):=by simp [Rn.put]
 have hfz:∀ b vs,E.f b=some vs→b<w.heap.size:=fun b vs hb=>by
  obtain⟨e,z,hx⟩:=W.frz b vs hb
  by_cases hlt:b<w.heap.size
  ·exact hlt
  ·rw[Array.getElem?_eq_none (by omega)]at hx;cases hx
 refine⟨hle,⟨?_,?_,?_,?_,?_,?_,?_,?_⟩,⟨rfl,rfl,rfl,by simp,fun b hb _=>hpush b hb⟩⟩
 ·intro i g b m hab
  by_cases e:i=h.length∧g=0
  ·obtain⟨rfl,rfl⟩:=e
   rw[hself]at hab;cases hab;simp
  ·have:E.a i g=some (b,m):=by simpa [Rn.put,e]using hab
   have:=W.bnd i g b m this
   simp;omega
 ·intro b vs hb
  obtain⟨e,z,hx⟩:=W.frz b vs hb
  exact⟨e,z,by rw[← hx];exact hpush b (hfz b vs hb)⟩
 ·intro i b m hi hab
  by_cases e:i=h.length
  ·subst e
   rw[hget_new]at hab ⊢
   rw[hg,hself]at hab
   cases hab
   simp only[Array.getElem?_push_size]
   exact ho.mono hle
  ·have hi':i<h.length:=by simp at hi;omega
   rw[hget_app h o i hi']at hab ⊢
   rw[hput i _ hi']at hab
   have hb:=W.bnd _ _ _ _ hab
   rw[show({w with heap:=w.heap.push x}:World).heap[b]?=w.heap[b]? from hpush b hb]
   exact(W.obj i b m hi' hab).mono hle
 ·intro i b m hi hab hs
  by_cases e:i=h.length
  ·subst e
   rw[hget_new,hg,hself]at hab
   cases hab
   show E.f w.heap.size=none
   cases hf:E.f w.heap.size with
   |none=>rfl
   |some vs=>exact absurd (hfz _ _ hf) (by omega)
  ·have hi':i<h.length:=by simp at hi;omega
   rw[hget_app h o i hi']at hab hs
   rw[hput i _ hi']at hab
   exact W.own i b m hi' hab hs
 ·intro i j b m m' hi hj hab hbb hd1 hd2
  by_cases e1:i=h.length<;>by_cases e2:j=h.length
  ·omega
  ·have hj':j<h.length:=by simp at hj;omega
   subst e1
   rw[hget_new,hg,hself]at hab
   rw[hget_app h o j hj',hput j _ hj']at hbb
   cases hab
   exact absurd (W.bnd _ _ _ _ hbb) (by omega)
  ·have hi':i<h.length:=by simp at hi;omega
   subst e2
   rw[hget_new,hg,hself]at hbb
   rw[hget_app h o i hi',hput i _ hi']at hab
   cases hbb
   exact absurd (W.bnd _ _ _ _ hab) (by omega)
  ·have hi':i<h.length:=by simp at hi;omega
   have hj':j<h.length:=by simp at hj;omega
   rw[hget_app h o i hi']at hab hd1
   rw[hget_app h o j hj']at hbb hd2
   rw[hput i _ hi']at hab
   rw[hput j _ hj']at hbb
   exact W.inj i j b m m' hi' hj' hab hbb hd1 hd2
 ·intro i g hi hlt
  by_cases e:i=h.length
  ·subst e
   rw[hget_new,hg]at hlt
   show(if _∧_ then _ else _)=none
   rw[if_neg (by omega)]
   exact W.new _ _ (Nat.le_refl _)
  ·have hi':i<h.length:=by simp at hi;omega
   rw[hget_app h o i hi']at hlt
   rw[hput i _ hi']
   exact W.old i g hi' hlt
 ·intro i g hi
  simp at hi
  show(if _∧_ then _ else _)=none
  rw[if_neg (by omega)]
  exact W.new _ _ (by omega)
 ·intro i g x hi hx
  by_cases e:i=h.length
  ·subst e;rw[hget_new,hg];exact⟨_,hself⟩
  ·have hi':i<h.length:=by simp at hi;omega
   rw[hget_app h o i hi',hput i _ hi']
   rw[hput i _ hi']at hx
   exact W.cur i g x hi' hx
theorem WR.set{E h w} (W:WR E h w) {i b n:Nat} {o:Ob} {w':World} (ha:E.a i (obGen (hget h i))=some (b,n)) (hs:(hget h i).soft=true)
  (hg:obGen o=obGen (hget h i)) (hso:o.soft=true) (ho:OR E o b n w'.heap[b]?) (h1:w'.os=w.os) (h2:w'.tape=w.tape) (h3:w'.output=w.output)
  (h4:w'.heap.size=w.heap.size) (h5:∀ k,k ≠ b→w'.heap[k]?=w.heap[k]?):WR E (hset h i o) w'∧Keep E h w w':=by
 have hi:i<h.length:=lt_of_hget (Ob.isDead_of_soft hs)
 have hgen:∀ j,obGen (hget (hset h i o) j)=obGen (hget h j):=fun j=>by
  rw[hget_hset h i j o hi];split
  ·subst_vars;exact hg
  ·rfl
 refine⟨⟨?_,?_,?_,?_,?_,?_,?_,?_⟩,⟨h1,h2,h3,by omega,?_⟩⟩
 ·intro j g b m hab;rw[h4];exact W.bnd _ _ _ _ hab
 ·intro k vs hk
  have hne:k ≠ b:=fun e=>by subst e;rw[W.own i k n hi ha hs]at hk;cases hk
  rw[h5 k hne];exact W.frz k vs hk
 ·intro j k m hj hab
  rw[hgen]at hab
  rw[hget_hset h i j o hi]
  split
  ·subst_vars;rw[ha]at hab;cases hab;exact ho
  ·rename_i hne
   have hj':j<h.length:=by simpa using hj
   by_cases hd:(hget h j).isDead=true
   ·cases hx:hget h j<;>simp [hx,Ob.isDead]at hd
    exact .dead
   ·have hkb:k ≠ b:=fun e=>by
     subst e
     exact hne (W.inj j i k m n hj' hi hab ha (by simpa using hd) (Ob.isDead_of_soft hs))
    rw[h5 k hkb];exact W.obj j k m hj' hab
 ·intro j k m hj hab hsj
  rw[hgen]at hab
  rw[hget_hset h i j o hi]at hsj
  have hj':j<h.length:=by simpa using hj
  split at hsj
  ·subst_vars;exact W.own _ _ _ hj' hab hs
  ·exact W.own _ _ _ hj' hab hsj
 ·intro j l k m m' hj hl hab hbb hd1 hd2
  rw[hgen]at hab hbb
  rw[hget_hset h i _ o hi]at hd1 hd2
  have hj':j<h.length:=by simpa using hj
  have hl':l<h.length:=by simpa using hl
  refine W.inj j l k m m' hj' hl' hab hbb ?_ ?_
  ·split at hd1
   ·subst_vars;exact Ob.isDead_of_soft hs
   ·exact hd1
  ·split at hd2
   ·subst_vars;exact Ob.isDead_of_soft hs
   ·exact hd2
 ·intro j g hj hlt
  rw[hgen]at hlt
  exact W.old j g (by simpa using hj) hlt
 ·intro j g hj
  exact W.new j g (by simpa using hj)
 ·intro j g x hj hx
  rw[hgen]
  exact W.cur j g x (by simpa using hj) hx
 ·intro k hk hno
  refine h5 k fun e=>?_
  subst e
  exact hno i n hi hs ha
theorem WR.freeze{E h w} (W:WR E h w) {i b n:Nat} {o:Ob} {vs:Array Value} {e:TypeId} {z:Nat×Nat} (ha:E.a i (obGen (hget h i))=some (b,n)) (hs:(hget h i).soft=true)
  (hg:obGen o=obGen (hget h i)) (hso:o.soft=false) (hd:o.isDead=false) (hb:w.heap[b]?=some (.cells vs e z)) (ho:OR (E.frz b vs) o b n w.heap[b]?) :
  E.le (E.frz b vs)∧WR (E.frz b vs) (hset h i o) w:=by
 have hi:i<h.length:=lt_of_hget (Ob.isDead_of_soft hs)
 have hfb:E.f b=none:=W.own i b n hi ha hs
 have hle:E.le (E.frz b vs):=Rn.le_frz hfb
 have hgen:∀ j,obGen (hget (hset h i o) j)=obGen (hget h j):=fun j=>by
  rw[hget_hset h i j o hi];split
  ·subst_vars;exact hg
  ·rfl
 have hdead:∀ j,(hget (hset h i o) j).isDead=false→(hget h j).isDead=false:=fun j hj=>by
  rw[hget_hset h i j o hi]at hj
  split at hj
  ·subst_vars;exact Ob.isDead_of_soft hs
  ·exact hj
 refine⟨hle,⟨W.bnd,?_,?_,?_,?_,?_,?_,?_⟩⟩
 ·intro k us hk
  have hk':(if k=b then some vs else E.f k)=some us:=hk
  split at hk'
  ·cases hk';subst_vars;exact⟨e,z,hb⟩
  ·exact W.frz k us hk'
 ·intro j k m hj hab
  rw[hgen]at hab
  rw[hget_hset h i j o hi]
  split
  ·subst_vars;have:=ha.symm.trans hab;cases this;exact ho
  ·exact(W.obj j k m (by simpa using hj) hab).mono hle
 ·intro j k m hj hab hsj
  rw[hgen]at hab
  rw[hget_hset h i j o hi]at hsj
  have hj':j<h.length:=by simpa using hj
  split at hsj
  ·rw[hso]at hsj;cases hsj
  ·rename_i hne
   show(if k=b then some vs else E.f k)=none
   have hkb:k ≠ b:=fun e=>by
    subst e
    exact hne (W.inj j i k m n hj' hi hab ha (Ob.isDead_of_soft hsj) (Ob.isDead_of_soft hs))
   rw[if_neg hkb]
   exact W.own j k m hj' hab hsj
 ·intro j l k m m' hj hl hab hbb hd1 hd2
  rw[hgen]at hab hbb
  exact W.inj j l k m m' (by simpa using hj) (by simpa using hl) hab hbb (hdead j hd1) (hdead l hd2)
 ·intro j g hj hlt
  rw[hgen]at hlt
  exact W.old j g (by simpa using hj) hlt
 ·intro j g hj
  exact W.new j g (by simpa using hj)
 ·intro j g x hj hx
  rw[hgen]
  exact W.cur j g x (by simpa using hj) hx
theorem WR.move{E h w} (W:WR E h w) {i g b n k m:Nat} {o:Ob} {w':World} (ha:E.a i (obGen (hget h i))=some (b,n)) (hs:(hget h i).soft=true)
  (hg0:g=obGen (hget h i)+1) (hg:obGen o=g) (hso:o.soft=true) (hk:k=b∨w.heap.size≤k) (hk':k<w'.heap.size) (ho:OR E o k m w'.heap[k]?)
  (h1:w'.os=w.os) (h2:w'.tape=w.tape) (h3:w'.output=w.output)
  (h4:w.heap.size≤w'.heap.size) (h5:∀ l,l<w.heap.size→l ≠ b→w'.heap[l]?=w.heap[l]?) :
  E.le (E.put i g (k,m))∧WR (E.put i g (k,m)) (hset h i o) w'∧Keep E h w w':=by
 have hi:i<h.length:=lt_of_hget (Ob.isDead_of_soft hs)
 have hnone:E.a i g=none:=W.old i g hi (by omega)
 have hle:E.le (E.put i g (k,m)):=Rn.le_put hnone
 have hself:(E.put i g (k,m)).a i g=some (k,m):=by simp [Rn.put]
 have hput:∀ j l,j ≠ i→(E.put i g (k,m)).a j l=E.a j l:=fun j l hj=>by
  show(if j=i∧l=g then some (k,m)else E.a j l)=_
  rw[if_neg (by omega)]
 have hfz:∀ l vs,E.f l=some vs→l<w.heap.size∧l ≠ b:=fun l vs hl=>by
  obtain⟨e,z,hx⟩:=W.frz l vs hl
  refine⟨?_,fun e=>by subst e;rw[W.own i l n hi ha hs]at hl;cases hl⟩
  by_cases hlt:l<w.heap.size
  ·exact hlt
  ·rw[Array.getElem?_eq_none (by omega)]at hx;cases hx
 refine⟨hle,⟨?_,?_,?_,?_,?_,?_,?_,?_⟩,⟨h1,h2,h3,h4,?_⟩⟩
 ·intro j l x y hab
  by_cases e:j=i∧l=g
  ·obtain⟨rfl,rfl⟩:=e
   rw[hself]at hab;cases hab;exact hk'
  ·have:E.a j l=some (x,y):=by simpa [Rn.put,e]using hab
   have:=W.bnd j l x y this
   omega
 ·intro l vs hl
  obtain⟨e,z,hx⟩:=W.frz l vs hl
  have:=hfz l vs hl
  exact⟨e,z,by rw[h5 l this.1 this.2];exact hx⟩
 ·intro j x y hj hab
  rw[hget_hset h i j o hi]at hab ⊢
  split at hab
  ·subst_vars;rw[if_pos rfl];rw[hself]at hab;cases hab;exact ho.mono hle
  ·rename_i hne
   rw[if_neg hne]
   rw[hput j _ hne]at hab
   have hj':j<h.length:=by simpa using hj
   by_cases hd:(hget h j).isDead=true
   ·cases hx:hget h j<;>simp [hx,Ob.isDead]at hd
    exact .dead
   ·have hxb:x ≠ b:=fun e=>by
     subst e
     exact hne (W.inj j i x y n hj' hi hab ha (by simpa using hd) (Ob.isDead_of_soft hs))
    rw[h5 x (W.bnd _ _ _ _ hab) hxb];exact(W.obj j x y hj' hab).mono hle
 ·intro j x y hj hab hsj
  rw[hget_hset h i j o hi]at hab hsj
  have hj':j<h.length:=by simpa using hj
  show E.f x=none
  split at hab
  ·subst_vars;rw[hself]at hab;cases hab
   rcases hk with rfl|hk
   ·exact W.own _ _ _ hi ha hs
   ·cases hf:E.f k with
    |none=>rfl
    |some vs=>exact absurd (hfz _ _ hf).1 (by omega)
  ·rename_i hne
   rw[if_neg hne]at hsj
   rw[hput j _ hne]at hab
   exact W.own j x y hj' hab hsj
 ·intro j l x y y' hj hl hab hbb hd1 hd2
  rw[hget_hset h i _ o hi]at hab hbb hd1 hd2
  have hj':j<h.length:=by simpa using hj
  have hl':l<h.length:=by simpa using hl
  by_cases e1:j=i<;>by_cases e2:l=i
  ·omega
  ·simp only[e1,e2,if_true,if_false]at hab hbb hd2
   rw[hg,hself]at hab
   rw[hput l _ e2]at hbb
   cases hab
   rcases hk with rfl|hk
   ·exact absurd (W.inj l i k y' n hl' hi hbb ha hd2 (Ob.isDead_of_soft hs)) e2
   ·exact absurd (W.bnd _ _ _ _ hbb) (by omega)
  ·simp only[e1,e2,if_true,if_false]at hab hbb hd1
   rw[hg,hself]at hbb
   rw[hput j _ e1]at hab
   cases hbb
   rcases hk with rfl|hk
   ·exact absurd (W.inj j i k y n hj' hi hab ha hd1 (Ob.isDead_of_soft hs)) e1
   ·exact absurd (W.bnd _ _ _ _ hab) (by omega)
  ·simp only[e1,e2,if_false]at hab hbb hd1 hd2
   rw[hput j _ e1]at hab
   rw[hput l _ e2]at hbb
   exact W.inj j l x y y' hj' hl' hab hbb hd1 hd2
 ·intro j l hj hlt
  rw[hget_hset h i j o hi]at hlt
  have hj':j<h.length:=by simpa using hj
  split at hlt
  ·subst_vars
   show(if _∧_ then _ else _)=none
   rw[if_neg (by omega)]
   exact W.old _ _ hj' (by omega)
  ·rename_i hne
   rw[hput j _ hne]
   exact W.old j l hj' hlt
 ·intro j l hj
  have hj':h.length≤j:=by simpa using hj
  rw[hput j _ (by omega)]
  exact W.new j l hj'
 ·intro j l x hj hx
  rw[hget_hset h i j o hi]
  split
  ·subst_vars;exact⟨_,hself⟩
  ·rename_i hne
   rw[hput j _ hne]at hx ⊢
   exact W.cur j l x (by simpa using hj) hx
 ·intro l hl hno
  refine h5 l hl fun e=>?_
  subst e
  exact hno i n hi hs ha
theorem WR.drawn{E h w} (W:WR E h w) (d:Nat):WR E h {w with drawn:=d}∧Keep E h w {w with drawn:=d}:=
 ⟨⟨W.bnd,W.frz,W.obj,W.own,W.inj,W.old,W.new,W.cur⟩,⟨rfl,rfl,rfl,Nat.le_refl _,fun _ _ _=>rfl⟩⟩
structure Adv (E:Rn) (h:List Ob) (w:World) (E':Rn) (h':List Ob) (w':World):Prop where
 le:E.le E'
 wr:WR E' h' w'
 keep:Keep E h w w'
 gain:∀ i b n,i<h'.length→(hget h' i).isDead=false→E'.a i (obGen (hget h' i))=some (b,n)→b<w.heap.size →
  ∃ j m,j<h.length∧(hget h j).isDead=false∧E.a j (obGen (hget h j))=some (b,m)∧((hget h' i).soft=true→(hget h j).soft=true)
 fgain:∀ b vs,E'.f b=some vs→E.f b=none→b<w.heap.size→∃ j m,j<h.length∧(hget h j).soft=true∧E.a j (obGen (hget h j))=some (b,m)
 len:h.length≤h'.length
 idle:∀ i,i<h.length→(∀ g,E.a i g=none)→hget h' i=hget h i∧∀ g,E'.a i g=none
theorem Adv.refl{E h w} (W:WR E h w):Adv E h w E h w:=
 ⟨E.le_refl,W,Keep.refl _ _ _,fun i b n hi hs ha _=>⟨i,n,hi,hs,ha,id⟩,fun b vs h1 h2=>(by rw[h1]at h2;cases h2),Nat.le_refl _,fun i _ hi=>⟨rfl,hi⟩⟩
theorem Adv.trans{E h w E' h' w' E'' h'' w''} (A:Adv E h w E' h' w') (B:Adv E' h' w' E'' h'' w''):Adv E h w E'' h'' w'':=by
 refine⟨Rn.le_trans A.le B.le,B.wr,⟨B.keep.os.trans A.keep.os,B.keep.tape.trans A.keep.tape,B.keep.output.trans A.keep.output,Nat.le_trans A.keep.size B.keep.size,?_⟩,?_,?_,Nat.le_trans A.len B.len,?_⟩
 ·intro b hb hno
  rw[B.keep.block b (Nat.lt_of_lt_of_le hb A.keep.size),A.keep.block b hb hno]
  intro i n hi hs ha
  obtain⟨j,m,hj,_,haj,hsj⟩:=A.gain i b n hi (Ob.isDead_of_soft hs) ha hb
  exact hno j m hj (hsj hs) haj
 ·intro i b n hi hs ha hb
  obtain⟨j,m,hj,hsj,haj,hss⟩:=B.gain i b n hi hs ha (Nat.lt_of_lt_of_le hb A.keep.size)
  obtain⟨l,m',hl,hsl,hal,hss'⟩:=A.gain j b m hj hsj haj hb
  exact⟨l,m',hl,hsl,hal,fun hh=>hss' (hss hh)⟩
 ·intro b vs h1 h2 hb
  cases hf:E'.f b with
  |some us=>exact A.fgain b us hf h2 hb
  |none=>
   obtain⟨j,m,hj,hsj,haj⟩:=B.fgain b vs h1 hf (Nat.lt_of_lt_of_le hb A.keep.size)
   obtain⟨l,m',hl,_,hal,hss⟩:=A.gain j b m hj (Ob.isDead_of_soft hsj) haj hb
   exact⟨l,m',hl,hss hsj,hal⟩
 ·intro i hi hn
  obtain⟨h1,h2⟩:=A.idle i hi hn
  obtain⟨h3,h4⟩:=B.idle i (Nat.lt_of_lt_of_le hi A.len) h2
  exact⟨h3.trans h1,h4⟩
theorem Rn.put_self(E:Rn) (i g x):(E.put i g x).a i g=some x:=by simp [Rn.put]
theorem Rn.put_other(E:Rn) {i g x j l} (h:¬(j=i∧l=g)):(E.put i g x).a j l=E.a j l:=by
 show(if j=i∧l=g then some x else E.a j l)=_
 rw[if_neg h]
theorem Adv.push{E h w} (W:WR E h w) {o:Ob} {x:Obj} {n:Nat} (hg:obGen o=0) (ho:OR E o w.heap.size n (some x)) :
  Adv E h w (E.put h.length 0 (w.heap.size,n)) (h++[o]) {w with heap:=w.heap.push x}:=by
 obtain⟨h1,h3,h4⟩:=W.push hg ho
 refine⟨h1,h3,h4,?_,fun b vs k1 k2=>(by rw[show E.f b=some vs from k1]at k2;cases k2),by simp,fun i hi hn=>⟨hget_app h o i hi,fun g=>by rw[Rn.put_other _ (by omega)];exact hn g⟩⟩
 intro i b m hi hs ha hb
 by_cases e:i=h.length
 ·subst e;rw[hget_new,hg,Rn.put_self]at ha;cases ha;omega
 ·have hi':i<h.length:=by simp at hi;omega
  rw[hget_app h o i hi']at hs ha ⊢
  rw[Rn.put_other _ (by omega)]at ha
  exact⟨i,_,hi',hs,ha,id⟩
theorem Adv.set{E h w} (W:WR E h w) {i b n:Nat} {o:Ob} {w':World} (ha:E.a i (obGen (hget h i))=some (b,n)) (hs:(hget h i).soft=true)
  (hg:obGen o=obGen (hget h i)) (hso:o.soft=true) (ho:OR E o b n w'.heap[b]?) (h1:w'.os=w.os) (h2:w'.tape=w.tape) (h3:w'.output=w.output)
  (h4:w'.heap.size=w.heap.size) (h5:∀ k,k ≠ b→w'.heap[k]?=w.heap[k]?):Adv E h w E (hset h i o) w':=by
 obtain⟨a1,a2⟩:=W.set ha hs hg hso ho h1 h2 h3 h4 h5
 have hi:i<h.length:=lt_of_hget (Ob.isDead_of_soft hs)
 refine⟨E.le_refl,a1,a2,?_,fun b vs k1 k2=>(by rw[k1]at k2;cases k2),by simp,fun j hj hn=>⟨?_,hn⟩⟩
 rotate_left
 ·rw[hget_hset h i j o hi,if_neg]
  intro e;subst e;rw[hn]at ha;cases ha
 intro j k m hj hsj haj _
 rw[hget_hset h i j o hi]at hsj haj ⊢
 by_cases e:j=i
 ·subst e;rw[if_pos rfl,hg]at haj;exact⟨_,_,hi,Ob.isDead_of_soft hs,haj,fun _=>hs⟩
 ·rw[if_neg e]at haj hsj ⊢;exact⟨j,m,by simpa using hj,hsj,haj,id⟩
theorem Adv.freeze{E h w} (W:WR E h w) {i b n:Nat} {o:Ob} {vs:Array Value} {e:TypeId} {z:Nat×Nat} (ha:E.a i (obGen (hget h i))=some (b,n)) (hs:(hget h i).soft=true)
  (hg:obGen o=obGen (hget h i)) (hso:o.soft=false) (hd:o.isDead=false) (hb:w.heap[b]?=some (.cells vs e z)) (ho:OR (E.frz b vs) o b n w.heap[b]?) :
  Adv E h w (E.frz b vs) (hset h i o) w:=by
 obtain⟨a1,a2⟩:=W.freeze ha hs hg hso hd hb ho
 have hi:i<h.length:=lt_of_hget (Ob.isDead_of_soft hs)
 refine⟨a1,a2,Keep.refl _ _ _,?_,?_,by simp,fun j hj hn=>⟨?_,hn⟩⟩
 rotate_left
 rotate_left
 ·rw[hget_hset h i j o hi,if_neg]
  intro e;subst e;rw[hn]at ha;cases ha
 ·intro j k m hj hsj haj _
  rw[hget_hset h i j o hi]at hsj haj ⊢
  by_cases e:j=i
  ·subst e;rw[if_pos rfl,hg]at haj;exact⟨_,_,hi,Ob.isDead_of_soft hs,haj,fun _=>hs⟩
  ·rw[if_neg e]at haj hsj ⊢;exact⟨j,m,by simpa using hj,hsj,haj,id⟩
 ·intro k us h1 h2 _
  have h1':(if k=b then some vs else E.f k)=some us:=h1
  split at h1'
  ·subst_vars;exact⟨i,n,hi,hs,ha⟩
  ·rw[h1']at h2;cases h2
theorem Adv.move{E h w} (W:WR E h w) {i g b n k m:Nat} {o:Ob} {w':World} (ha:E.a i (obGen (hget h i))=some (b,n)) (hs:(hget h i).soft=true)
  (hg0:g=obGen (hget h i)+1) (hg:obGen o=g) (hso:o.soft=true) (hk:k=b∨w.heap.size≤k) (hk':k<w'.heap.size) (ho:OR E o k m w'.heap[k]?)
  (h1:w'.os=w.os) (h2:w'.tape=w.tape) (h3:w'.output=w.output)
  (h4:w.heap.size≤w'.heap.size) (h5:∀ l,l<w.heap.size→l ≠ b→w'.heap[l]?=w.heap[l]?):Adv E h w (E.put i g (k,m)) (hset h i o) w':=by
 obtain⟨a1,a2,a3⟩:=W.move ha hs hg0 hg hso hk hk' ho h1 h2 h3 h4 h5
 have hi:i<h.length:=lt_of_hget (Ob.isDead_of_soft hs)
 refine⟨a1,a2,a3,?_,fun b vs k1 k2=>(by rw[show E.f b=some vs from k1]at k2;cases k2),by simp,fun j hj hn=>?_⟩
 rotate_left
 ·have hne:j ≠ i:=by intro e;subst e;rw[hn]at ha;cases ha
  exact⟨by rw[hget_hset h i j o hi,if_neg hne],fun l=>by rw[Rn.put_other _ (by omega)];exact hn l⟩
 intro j l y hj hsj haj hl
 rw[hget_hset h i j o hi]at hsj haj ⊢
 by_cases e:j=i
 ·subst e
  rw[if_pos rfl,hg,Rn.put_self]at haj
  cases haj
  rcases hk with rfl|hk
  ·exact⟨_,_,hi,Ob.isDead_of_soft hs,ha,fun _=>hs⟩
  ·omega
 ·rw[if_neg e,Rn.put_other _ (by omega)]at haj
  rw[if_neg e]at hsj ⊢
  exact⟨j,y,by simpa using hj,hsj,haj,id⟩
theorem Adv.drawn{E h w} (W:WR E h w) (d:Nat):Adv E h w E h {w with drawn:=d}:=
 ⟨E.le_refl,(W.drawn d).1,(W.drawn d).2,fun i b n hi hs ha _=>⟨i,n,hi,hs,ha,id⟩,fun b vs h1 h2=>(by rw[h1]at h2;cases h2),Nat.le_refl _,fun i _ hi=>⟨rfl,hi⟩⟩
noncomputable def VH.heap(h:List Ob):VH→List Ob
 |.ws _ i o=>hset h i o
 |.wn _ o=>h++[o]
 |.wh _ h=>h
 |_=>h
def VH.val:VH→AV
 |.w v=>v
 |.ws v _ _=>v
 |.wn v _=>v
 |.wh v _=>v
 |.no=>.un
def VH.isNo:VH→Bool
 |.no=>true
 |_=>false
def VP(E:Rn) (h:List Ob) (w:World) (vh:VH) (v:Value) (w':World):Prop:=
 ∃ E',Adv E h w E' (vh.heap h) w'∧VR E' vh.val v
def SemV(P:Program) (E:Rn) (h:List Ob) (w:World) (vh:VH) (s:Sem Value):Prop:=
 vh.isNo=false→∃ v w',s.run P w=.ok v w'∧VP E h w vh v w'
def SemU(P:Program) (E:Rn) (h:List Ob) (w:World) (vh:VH) (s:Sem Unit):Prop:=
 vh.isNo=false→∃ w',s.run P w=.ok () w'∧VP E h w vh undef w'
theorem SemV.w{P E h w} (W:WR E h w) {x:AV} {s:Sem Value} {v:Value} (hs:s.run P w=.ok v w) (hv:VR E x v):SemV P E h w (.w x) s:=
 fun _=>⟨v,w,hs,E,Adv.refl W,hv⟩
theorem SemV.no{P E h w} {s:Sem Value}:SemV P E h w .no s:=fun h=>by simp [VH.isNo]at h
theorem SemU.no{P E h w} {s:Sem Unit}:SemU P E h w .no s:=fun h=>by simp [VH.isNo]at h
theorem SemV.ofO{P E h w} (W:WR E h w) {x:Option AV} {s:Sem Value} (hs:∀ a,x=some a→∃ v,s.run P w=.ok v w∧VR E a v):SemV P E h w (.ofO x) s:=by
 cases x with
 |none=>exact .no
 |some a=>obtain⟨v,h1,h2⟩:=hs a rfl;exact .w W h1 h2
theorem run_storeCells{P:Program} {b o:Nat} {e:TypeId} {z:Nat×Nat}:∀ (l:List Value) (i:Nat) (cur:Array Value) (w:World),w.heap[b]?=some (.cells cur e z)→soft z cur.size →
  o+i+l.length≤cur.size→(∀ v∈l,v.oneCell'=true) →
  ∃ w' cur',(storeCells ⟨b,o,none⟩ l i).run P w=.ok () w'∧w'.heap[b]?=some (.cells cur' e z)∧cur'.toList=cur.toList.take (o+i)++(l++cur.toList.drop (o+i+l.length)) ∧
   w'.os=w.os∧w'.tape=w.tape∧w'.output=w.output∧w'.heap.size=w.heap.size∧∀ k,k ≠ b→w'.heap[k]?=w.heap[k]?:=by
 intro l
 induction l with
 |nil=>
  intro i cur w hb hz hl ho
  refine⟨w,cur,rfl,hb,?_,rfl,rfl,rfl,rfl,fun _ _=>rfl⟩
  simp
 |cons v l ih=>
  intro i cur w hb hz hl ho
  simp only[List.length_cons]at hl
  have hv:=ho v (List.mem_cons_self ..)
  have hcell:w.cell? ⟨b,o+i,none⟩=some (cur[o+i]'(by omega)):=by
   rw[cell_cells hb];simp
  have hfr:w.frozen? ⟨b,o+i,none⟩=false:=by
   simp only[World.frozen?,hb]
   have:=hz (o+i) (by omega)
   simp only[Bool.and_eq_false_iff,decide_eq_false_iff_not]
   omega
  have hb1:(w.setCell ⟨b,o+i,none⟩ v).heap[b]?=some (.cells (cur.setIfInBounds (o+i) v) e z):=by
   simp [World.setCell,Array.getElem?_modify,hb]
  have hoth:∀ k,k ≠ b→(w.setCell ⟨b,o+i,none⟩ v).heap[k]?=w.heap[k]?:=fun k hk=>by
   simp [World.setCell,Array.getElem?_modify,Ne.symm hk]
  obtain⟨w',cur',hr,h1,h2,h3,h4,h5,h6,h7⟩:=ih (i+1) (cur.setIfInBounds (o+i) v) (w.setCell ⟨b,o+i,none⟩ v) hb1 (by simpa using hz) (by simp;omega) (fun u hu=>ho u (List.mem_cons_of_mem _ hu))
  refine⟨w',cur',?_,h1,?_,h3,h4,h5,?_,?_⟩
  ·simp only[storeCells,Sem.run_bind,addr_add,run_store _ _ _ _ _ hv,hcell,hfr]
   simpa using hr
  ·rw[h2]
   have hlen:o+i<cur.toList.length:=by simp;omega
   simp only[Array.toList_setIfInBounds]
   rw[show o+(i+1)=(o+i)+1 by omega,List.take_succ_eq_append_getElem (by simpa using hlen)]
   simp only[List.take_set_of_le (Nat.le_refl _),List.getElem_set_self,List.append_assoc,List.cons_append,List.nil_append]
   rw[List.drop_set_of_lt (by omega),show o+i+1+l.length=o+i+(v::l).length by simp;omega]
  ·rw[h6];simp [World.setCell]
  ·intro k hk;rw[h7 k hk,hoth k hk]
section
variable {c:Ctx} {P:Program} {E:Rn} {h:List Ob} {w:World}
theorem ptr_cells(W:WR E h w) {i off e cs v} (hv:VR E (.ptr i off) v) (ho:hget h i=.cells e cs) :
  ∃ b n vs z,v=.pointer (some ⟨b,off,none⟩)∧E.a i (obGen (hget h i))=some (b,n)∧w.heap[b]?=some (.cells vs e z)∧vs.size=n∧soft z n∧CR' E cs vs.toList:=by
 cases hv with
 | @ptr _ _ b n ha=>
  have hg:obGen (hget h i)=0:=by rw[ho];rfl
  have hi:i<h.length:=lt_of_hget (by rw[ho];rfl)
  have hob:=W.obj i b n hi (by rw[hg];exact ha)
  rw[ho]at hob
  generalize hx:w.heap[b]?=x at hob
  cases hob with
  | @cells _ _ _ _ vs z hs hz hc=>exact⟨b,n,vs,z,rfl,by rw[hg];exact ha,hx,hs,hz,hc⟩
theorem row_elems(W:WR E h w) {i g sz xs b n} (ha:E.a i g=some (b,n)) (hr:rowAt h i g sz=some xs) :
  ∃ f:Nat→Option Value,(∀ o v,f o=some v→w.cell? ⟨b,o,none⟩=some v)∧ElemsG E.f f 0 sz xs∧0<sz:=by
 unfold rowAt at hr
 split at hr
 ·rename_i e sz' xs' ex g' ho
  cases hb:(Nat.beq g g'&&Nat.beq sz sz')with
  |false=>simp [hb]at hr
  |true=>
   simp only[hb,cond,Option.some.injEq]at hr
   subst hr
   simp only[Bool.and_eq_true,Nat.beq_eq]at hb
   obtain⟨rfl,rfl⟩:=hb
   have hi:i<h.length:=lt_of_hget (by rw[ho];rfl)
   have hob:=W.obj i b n hi (by rw[ho];exact ha)
   rw[ho]at hob
   generalize hx:w.heap[b]?=x at hob
   cases hob with
   | @row _ _ _ _ _ _ _ vs z hs hz h0 hn he hel=>
    exact⟨fun o=>vs[o]?,fun o v hv=>by rw[cell_cells hx];exact hv,hel,h0⟩
 ·rename_i sz' xs' g' ho
  cases hb:(Nat.beq g g'&&Nat.beq sz sz')with
  |false=>simp [hb]at hr
  |true=>
   simp only[hb,cond,Option.some.injEq]at hr
   subst hr
   simp only[Bool.and_eq_true,Nat.beq_eq]at hb
   obtain⟨rfl,rfl⟩:=hb
   have hi:i<h.length:=lt_of_hget (by rw[ho];rfl)
   have hob:=W.obj i b n hi (by rw[ho];exact ha)
   rw[ho]at hob
   cases hob with
   |fr h0 hn hel=>
    refine⟨cellF E.f b,fun o v hv=>?_,hel,h0⟩
    unfold cellF at hv
    cases hf:E.f b with
    |none=>simp [hf]at hv
    |some vs=>
     obtain⟨e,z,hx⟩:=W.frz b vs hf
     rw[cell_cells hx];simpa [hf]using hv
 ·cases hr
theorem frz_cell(W:WR E h w) {b o v} (hv:cellF E.f b o=some v):w.cell? ⟨b,o,none⟩=some v:=by
 unfold cellF at hv
 cases hf:E.f b with
 |none=>simp [hf]at hv
 |some vs=>
  obtain⟨e,z,hx⟩:=W.frz b vs hf
  rw[cell_cells hx];simpa [hf]using hv
theorem list_of_cells{f:Nat→Option (Array Value)} {g:Nat→Option Value} {off:Nat} {cs:List PV} (hc:CellsG f g off cs) :
  ∃ vs:List Value,vs.length=cs.length∧(∀ (j:Nat) v,vs[j]?=some v→g (off+j)=some v)∧(∀ v∈vs,v.oneCell'=true)∧∀ (j:Nat) x v,cs[j]?=some x→vs[j]?=some v→PR f x v:=by
 induction cs generalizing off with
 |nil=>exact⟨[],rfl,by simp,by simp,by simp⟩
 |cons y cs ih=>
  obtain⟨v,h1,h2,h3⟩:=hc 0 y rfl
  obtain⟨vs,k1,k2,k3,k4⟩:=ih (off:=off+1) (fun j x hx=>by
   obtain⟨u,a,b⟩:=hc (j+1) x (by simpa using hx)
   exact⟨u,by rw[show off+1+j=off+(j+1) by omega];exact a,b⟩)
  refine⟨v::vs,by simp [k1],?_,?_,?_⟩
  ·intro j u hu
   cases j with
   |zero=>simp only[List.getElem?_cons_zero,Option.some.injEq]at hu;subst hu;exact h1
   |succ j=>rw[show off+(j+1)=off+1+j by omega];exact k2 j u (by simpa using hu)
  ·intro u hu
   rcases List.mem_cons.1 hu with rfl|hu
   ·exact h2
   ·exact k3 u hu
  ·intro j x u hx hu
   cases j with
   |zero=>simp only[List.getElem?_cons_zero,Option.some.injEq]at hx hu;subst hx;subst hu;exact h3
   |succ j=>exact k4 j x u (by simpa using hx) (by simpa using hu)
theorem CellsG.sub{f:Nat→Option (Array Value)} {g:Nat→Option Value} {off:Nat} {cs:List PV} (hc:CellsG f g off cs) (o n:Nat):CellsG f g (off+o) ((cs.drop o).take n):=by
 intro j y hy
 rw[List.getElem?_take]at hy
 split at hy
 ·rw[List.getElem?_drop]at hy
  have:=hc (o+j) y hy
  rwa[show off+(o+j)=off+o+j by omega]at this
 ·cases hy
theorem part_cells(C:CtxOk c P) {f:Nat→Option (Array Value)} {g:Nat→Option Value} {b off o:Nat} {t:TypeId} {cs:List PV} {q:PV} (hg:∀ o v,g o=some v→w.cell? ⟨b,o,none⟩=some v)
  (hc:CellsG f g off cs) (hp:part? c t cs o=some q) :
  (∃ v,(loadVar t ⟨b,off+o,none⟩).run P w=.ok v w∧PR f q v)∧CellsG f g (off+o) q.cells:=by
 unfold part? at hp
 cases ha:aggT? c t with
 |none=>simp [ha]at hp
 |some a=>
  cases a with
  |true=>
   simp only[ha]at hp
   cases hs:sizeOf? c t with
   |none=>simp [hs]at hp
   |some n=>
    simp only[hs]at hp
    obtain⟨hle,he⟩:=subK_some hp
    simp only[Option.some.injEq]at he
    subst he
    obtain⟨vs,k1,k2,k3,k4⟩:=list_of_cells (hc.sub o n)
    have hlen:vs.length=n:=by rw[k1];simp;omega
    refine⟨⟨.agg vs.toArray,run_loadVar_agg C ha hs hlen (fun j v hj=>hg _ _ (k2 j v hj)),.agg (by simpa using k1.symm) ?_ ?_⟩,hc.sub o n⟩
    ·intro i v hv
     exact k3 v (List.mem_of_getElem? (i:=i) (by simpa using hv))
    ·intro i x v hx hv
     exact k4 i x v hx (by simpa using hv)
  |false=>
   simp only[ha,pget_eq]at hp
   obtain⟨v,h1,h2,h3⟩:=hc o q hp
   refine⟨⟨v,run_loadVar_one C ha (hg _ _ h1),h3⟩,?_⟩
   have hq:q.cells=[q]:=by
    cases q with
    |agg l=>obtain⟨vs,rfl,_⟩:=h3.agg_inv;simp [Value.oneCell']at h2
    |_=>rfl
   rw[hq]
   intro j y hy
   cases j with
   |zero=>simp only[List.getElem?_cons_zero,Option.some.injEq]at hy;subst hy;exact⟨v,h1,h2,h3⟩
   |succ j=>simp at hy
theorem load_ok(C:CtxOk c P) (W:WR E h w) {t:TypeId} {x u:AV} {v:Value} (hv:VR E x v) (hl:load? c h t x=some u) :
  ∃ v',(Instr.loadAt t v).run P w=.ok v' w∧VR E u v':=by
 cases x with
 |ptr i off=>
  simp only[load?,loadPtr]at hl
  split at hl
  ·rename_i e cs ho
   obtain⟨b,n,vs,z,rfl,ha,hb,hn,hz,hc⟩:=ptr_cells W hv ho
   simp only[Instr.loadAt,Instr.sureAddr,Sem.run_bind,Sem.run_pure,Result.andThen_ok]
   unfold partA? at hl
   cases hag:aggT? c t with
   |none=>simp [hag]at hl
   |some a=>
    cases a with
    |true=>
     simp only[hag]at hl
     cases hs:sizeOf? c t with
     |none=>simp [hs]at hl
     |some m=>
      simp only[hs]at hl
      obtain⟨hle,he⟩:=subK_some hl
      simp only[Option.some.injEq]at he
      subst he
      refine⟨.agg ((vs.toList.drop off).take m).toArray,run_loadVar_agg C hag hs ?_ ?_,mkAgg_ok (by simpa using hc.sub off m)⟩
      ·have:=hc.1.1;simp at this;simp;omega
      ·intro j v hj
       rw[cell_cells hb]
       rw[List.getElem?_take]at hj
       split at hj
       ·rw[List.getElem?_drop]at hj;simpa using hj
       ·cases hj
    |false=>
     simp only[hag,aget_eq]at hl
     have hlt:off<vs.toList.length:=by
      rw[← hc.1.1]
      exact(List.getElem?_eq_some_iff.1 hl).1
     have hvs:vs.toList[off]?=some (vs.toList[off]'hlt):=by simp
     exact⟨_,run_loadVar_one C hag (by rw[cell_cells hb,← Array.getElem?_toList];exact hvs),hc.1.2 off u _ hl hvs⟩
  ·cases hl
 |cptr q=>
  cases hv with
  | @cptr _ b off hc=>
   simp only[load?,loadC]at hl
   simp only[Instr.loadAt,Instr.sureAddr,Sem.run_bind,Sem.run_pure,Result.andThen_ok]
   obtain⟨vs,k1,k2,k3,k4⟩:=list_of_cells hc
   cases hag:aggT? c t with
   |none=>simp [hag]at hl
   |some a=>
    cases a with
    |true=>
     simp only[hag]at hl
     split at hl
     ·rename_i cs n hs
      cases hb:Nat.beq cs.length n with
      |false=>simp [hb]at hl
      |true=>
       simp only[hb,cond,Option.some.injEq]at hl
       subst hl
       have hn:cs.length=n:=Nat.eq_of_beq_eq_true hb
       refine⟨.agg vs.toArray,run_loadVar_agg C hag hs (by rw[k1];exact hn) (fun j v hj=>frz_cell W (k2 j v hj)),.p (.agg (by simpa [PV.cells]using k1.symm) ?_ ?_)⟩
       ·intro i v hv
        exact k3 v (List.mem_of_getElem? (i:=i) (by simpa using hv))
       ·intro i x v hx hv
        exact k4 i x v hx (by simpa using hv)
     ·cases hl
    |false=>
     simp only[hag]at hl
     have hone:∀ cs,q ≠ .agg cs:=fun cs e=>by subst e;simp at hl
     have hq:q.cells=[q]:=by cases q<;>first|rfl|exact absurd rfl (hone _)
     have hu:u=.p q:=by cases q<;>first|(simp at hl;exact hl.symm)|exact absurd rfl (hone _)
     subst hu
     obtain⟨v,h1,h2,h3⟩:=hc 0 q (by rw[hq];rfl)
     exact⟨v,run_loadVar_one C hag (frz_cell W h1),.p h3⟩
 |el i g sz k o=>
  cases hv with
  | @el _ _ _ _ _ b n ha=>
   simp only[load?,loadEl]at hl
   simp only[Instr.loadAt,Instr.sureAddr,Sem.run_bind,Sem.run_pure,Result.andThen_ok]
   cases hr:rowAt h i g sz with
   |none=>simp [hr]at hl
   |some xs=>
    simp only[hr,pget_eq]at hl
    cases hx:xs[k]? with
    |none=>simp [hx]at hl
    |some x=>
     simp only[hx]at hl
     cases hp:part? c t x.cells o with
     |none=>simp [hp]at hl
     |some q=>
      simp only[hp,Option.some.injEq]at hl
      subst hl
      obtain⟨f,h1,h2,h3⟩:=row_elems W ha hr
      obtain⟨_,hcell⟩:=h2 k x hx
      obtain⟨⟨v,hv,hq⟩,_⟩:=part_cells C h1 hcell hp
      exact⟨v,by simpa using hv,.p hq⟩
 |_=>simp [load?]at hl
end
theorem overK_some{α R:Type} {l:List α} {off:Nat} {m:List α} {g:List α→R} {no r:R} (h:overK l off m g no=r) (hn:r ≠ no) :
  off+m.length≤l.length∧g (l.take off++(m++l.drop (off+m.length)))=r:=by
 unfold overK at h
 cases hb:Nat.ble (off+m.length) l.length with
 |false=>rw[hb]at h;exact absurd h.symm hn
 |true=>rw[hb]at h;simp only[cond,lnf_eq]at h;exact⟨Nat.le_of_ble_eq_true hb,h⟩
theorem getElem?_over{α:Type} (l m:List α) (off i:Nat) (hl:off+m.length≤l.length) :
  (l.take off++(m++l.drop (off+m.length)))[i]?=if i<off then l[i]? else if i<off+m.length then m[i-off]? else l[i]?:=by
 by_cases h1:i<off
 ·rw[if_pos h1,List.getElem?_append_left (by simp;omega),List.getElem?_take,if_pos h1]
 ·rw[if_neg h1,List.getElem?_append_right (by simp;omega)]
  have hlen:(l.take off).length=off:=by simp;omega
  rw[hlen]
  by_cases h2:i<off+m.length
  ·rw[if_pos h2,List.getElem?_append_left (by omega)]
  ·rw[if_neg h2,List.getElem?_append_right (by omega),List.getElem?_drop]
   congr 1;omega
theorem CR'.over{E l vs m us} (h:CR' E l vs) (h':CR' E m us) (off:Nat) (hl:off+m.length≤l.length) :
  CR' E (l.take off++(m++l.drop (off+m.length))) (vs.take off++(us++vs.drop (off+us.length))):=by
 have e1:=h.1.1
 have e2:=h'.1.1
 refine⟨⟨by simp;omega,?_⟩,?_⟩
 ·intro i x v hx hv
  rw[getElem?_over _ _ _ _ hl]at hx
  rw[getElem?_over _ _ _ _ (by omega)]at hv
  rw[e2]at hx
  split at hx
  ·rw[if_pos (by assumption)]at hv;exact h.1.2 i x v hx hv
  ·rw[if_neg (by assumption)]at hv
   split at hx
   ·rw[if_pos (by assumption)]at hv;exact h'.1.2 _ x v hx hv
   ·rw[if_neg (by assumption)]at hv;exact h.1.2 i x v hx hv
 ·intro v hv
  rcases List.mem_append.1 hv with hv|hv
  ·exact h.2 v (List.mem_of_mem_take hv)
  ·rcases List.mem_append.1 hv with hv|hv
   ·exact h'.2 v hv
   ·exact h.2 v (List.mem_of_mem_drop hv)
theorem ElemsG.drop{f:Nat→Option (Array Value)} {g:Nat→Option Value} {sz xs} (h:ElemsG f g 0 sz xs) (off len:Nat):ElemsG f g (off*sz) sz ((xs.drop off).take len):=by
 intro i x hx
 rw[List.getElem?_take]at hx
 split at hx
 ·rw[List.getElem?_drop]at hx
  obtain⟨h1,h2⟩:=h _ x hx
  refine⟨h1,?_⟩
  rw[show off*sz+i*sz=0+(off+i)*sz by rw[Nat.add_mul];omega]
  exact h2
 ·cases hx
theorem freezeRow_ok{E h w i g sz off len q h' v} (W:WR E h w) (hv:VR E (.sl i g sz off len) v) (hf:freezeRow h i g sz off len=some (q,h')) :
  ∃ E',Adv E h w E' h' w∧PR E'.f q v:=by
 cases hv with
 | @sl _ _ _ _ _ b n cap ha hc hl hs0=>
  unfold freezeRow at hf
  split at hf
  ·rename_i e sz' xs ex g' ho
   cases hb:(Nat.beq g g'&&Nat.beq sz sz')with
   |false=>simp [hb]at hf
   |true=>
    simp only[hb,cond]at hf
    obtain⟨hle,he⟩:=subK_some hf
    simp only[hsetK_eq,Option.some.injEq,Prod.mk.injEq]at he
    obtain⟨rfl,rfl⟩:=he
    simp only[Bool.and_eq_true,Nat.beq_eq]at hb
    obtain⟨rfl,rfl⟩:=hb
    have hi:i<h.length:=lt_of_hget (by rw[ho];rfl)
    have hob:=W.obj i b n hi (by rw[ho];exact ha)
    rw[ho]at hob
    generalize hx:w.heap[b]?=x at hob
    cases hob with
    | @row _ _ _ _ _ _ _ vs z hs hz h0 hn hex hel=>
     have hle':E.le (E.frz b vs):=Rn.le_frz (W.own i b n hi (by rw[ho];exact ha) (by rw[ho];rfl))
     have hcell:∀ o v,vs[o]?=some v→cellF (E.frz b vs).f b o=some v:=fun o v hv=>by
      simp [cellF,Rn.frz,hv]
     have hel':ElemsG (E.frz b vs).f (cellF (E.frz b vs).f b) 0 sz xs:=hel.mono hle'.f hcell
     have A:Adv E h w (E.frz b vs) (hset h i (.fr sz xs g)) w:=by
      refine Adv.freeze W (by rw[ho];exact ha) (by rw[ho];rfl) (by rw[ho];rfl) rfl rfl hx ?_
      exact .fr h0 hn hel'
     refine⟨_,A,?_⟩
     have hlen:((xs.drop off).take len).length=len:=by simp;omega
     have:=PR.of_elems (f:=(E.frz b vs).f) (b:=b) (off:=off*sz) (cap:=cap) (by rw[hlen];exact hl) (hel'.drop off len)
     rwa[hlen]at this
  ·rename_i sz' xs g' ho
   cases hb:(Nat.beq g g'&&Nat.beq sz sz')with
   |false=>simp [hb]at hf
   |true=>
    simp only[hb,cond]at hf
    obtain⟨hle,he⟩:=subK_some hf
    simp only[Option.some.injEq,Prod.mk.injEq]at he
    obtain⟨rfl,rfl⟩:=he
    simp only[Bool.and_eq_true,Nat.beq_eq]at hb
    obtain⟨rfl,rfl⟩:=hb
    have hi:i<h.length:=lt_of_hget (by rw[ho];rfl)
    have hob:=W.obj i b n hi (by rw[ho];exact ha)
    rw[ho]at hob
    cases hob with
    |fr h0 hn hel=>
     refine⟨E,Adv.refl W,?_⟩
     have hlen:((xs.drop off).take len).length=len:=by simp;omega
     have:=PR.of_elems (f:=E.f) (b:=b) (off:=off*sz) (cap:=cap) (by rw[hlen];exact hl) (hel.drop off len)
     rwa[hlen]at this
  ·cases hf
mutual
theorem pure1_ok{P:Program} {w:World}:∀ (x:AV) (E:Rn) (h:List Ob) (q:PV) (h':List Ob) (v:Value),WR E h w→VR E x v→pure1 h x=some (q,h')→∃ E',Adv E h w E' h' w∧PR E'.f q v
 |.p r,E,h,q,h',v,W,hv,hf=>by
  simp only[pure1,Option.some.injEq,Prod.mk.injEq]at hf
  obtain⟨rfl,rfl⟩:=hf
  exact⟨E,Adv.refl W,hv.p_inv⟩
 |.full sz xs,E,h,q,h',v,W,hv,hf=>by
  simp only[pure1,Option.some.injEq,Prod.mk.injEq]at hf
  obtain⟨rfl,rfl⟩:=hf
  cases hv with
  |full hp _=>exact⟨E,Adv.refl W,hp⟩
 |.sl i g sz off len,E,h,q,h',v,W,hv,hf=>freezeRow_ok W hv (by simpa [pure1]using hf)
 |.agg cs,E,h,q,h',v,W,hv,hf=>by
  obtain⟨vs,rfl,hl,ho,hp⟩:=hv.agg_inv
  simp only[pure1]at hf
  split at hf
  ·rename_i l h1 hps
   simp only[Option.some.injEq,Prod.mk.injEq]at hf
   obtain⟨rfl,rfl⟩:=hf
   obtain⟨E',A,hlen,hq⟩:=pures_ok (P:=P) cs E h l h1 vs.toList W ⟨by simpa using hl,fun i x v hx hv=>hp i x v hx (by simpa using hv)⟩ hps
   exact⟨E',A,.agg (by simpa [hl]using hlen) ho fun i x v hx hv=>hq i x v hx (by simpa using hv)⟩
  ·cases hf
 |.face t x,E,h,q,h',v,W,hv,hf=>by
  cases hv with
  |face hv=>
   simp only[pure1]at hf
   split at hf
   ·rename_i r h1 hps
    simp only[Option.some.injEq,Prod.mk.injEq]at hf
    obtain⟨rfl,rfl⟩:=hf
    obtain⟨E',A,hq⟩:=pure1_ok (P:=P) x E h r h1 _ W hv hps
    exact⟨E',A,.face hq⟩
   ·cases hf
 |.un,_,_,_,_,_,_,_,hf=>by simp [pure1]at hf
 |.ptr _ _,_,_,_,_,_,_,_,hf=>by simp [pure1]at hf
 |.cptr _,_,_,_,_,_,_,_,hf=>by simp [pure1]at hf
 |.el _ _ _ _ _,_,_,_,_,_,_,_,hf=>by simp [pure1]at hf
 |.asl _ _ _ _,_,_,_,_,_,_,_,hf=>by simp [pure1]at hf
 |.func _ _ _,_,_,_,_,_,_,_,hf=>by simp [pure1]at hf
 |.yield _,_,_,_,_,_,_,_,hf=>by simp [pure1]at hf
 |.tup _,_,_,_,_,_,_,_,hf=>by simp [pure1]at hf
 |.map _,_,_,_,_,_,_,_,hf=>by simp [pure1]at hf
theorem pures_ok{P:Program} {w:World}:∀ (l:List AV) (E:Rn) (h:List Ob) (qs:List PV) (h':List Ob) (vs:List Value),WR E h w→LR E l vs→pures h l=some (qs,h') →
  ∃ E',Adv E h w E' h' w∧qs.length=l.length∧∀ (i:Nat) q v,qs[i]?=some q→vs[i]?=some v→PR E'.f q v
 | [],E,h,qs,h',vs,W,hl,hf=>by
  simp only[pures,Option.some.injEq,Prod.mk.injEq]at hf
  obtain⟨rfl,rfl⟩:=hf
  exact⟨E,Adv.refl W,rfl,by simp⟩
 |x::l,E,h,qs,h',vs,W,hl,hf=>by
  simp only[pures]at hf
  split at hf
  ·rename_i q h1 hp
   split at hf
   ·rename_i qs' h2 hps
    simp only[Option.some.injEq,Prod.mk.injEq]at hf
    obtain⟨rfl,rfl⟩:=hf
    cases vs with
    |nil=>simp [LR]at hl
    |cons v vs=>
     obtain⟨E1,A1,hq⟩:=pure1_ok (P:=P) x E h q h1 v W (hl.2 0 x v rfl rfl) hp
     have hl':LR E1 l vs:=⟨by have:=hl.1;simpa using this,fun i y u hy hu=>(hl.2 (i+1) y u (by simpa using hy) (by simpa using hu)).mono A1.le⟩
     obtain⟨E2,A2,hlen,hqs⟩:=pures_ok (P:=P) l E1 h1 qs' h2 vs A1.wr hl' hps
     refine⟨E2,A1.trans A2,by simp [hlen],?_⟩
     intro i r u hr hu
     cases i with
     |zero=>simp only[List.getElem?_cons_zero,Option.some.injEq]at hr hu;subst hr;subst hu;exact hq.mono A2.le.f
     |succ i=>exact hqs i r u (by simpa using hr) (by simpa using hu)
   ·cases hf
  ·cases hf
end
section
variable {c:Ctx} {P:Program} {E:Rn} {h:List Ob} {w:World}
theorem run_storeVar(C:CtxOk c P) {t n a v} (hs:sizeOf? c t=some n) (hn:v.cells.size=n):(storeVar t a v).run P w=(storeCells a v.cells.toList).run P w:=by
 unfold storeVar
 simp [run_sizeOf C hs,hn]
theorem storePtr_ok(C:CtxOk c P) (W:WR E h w) {t n i off x a v} (hs:sizeOf? c t=some n) (ha:VR E (.ptr i off) a) (hv:VR E x v) :
  SemU P E h w (storePtr h n i off x) (Instr.storeAt t a v):=by
 unfold storePtr
 cases hc:x.cells? with
 |none=>exact .no
 |some l=>
  dsimp only
  cases hb:Nat.beq l.length n with
  |false=>exact .no
  |true=>
   dsimp only[cond]
   split
   ·rename_i e cs ho
    intro hno
    generalize hr:overK cs off l (fun cs=>VH.ws undefA i (.cells e cs)) VH.no=r at hno
    have hne:r ≠ .no:=fun e=>by subst e;simp [VH.isNo]at hno
    obtain⟨hle,rfl⟩:=overK_some hr hne
    obtain⟨b,m,vs,z,rfl,hab,hblk,hsz,hz,hcs⟩:=ptr_cells W ha ho
    have hcell:=cells_ok hv hc
    have hlen:l.length=v.cells.size:=by simpa using hcell.1.1
    have hln:l.length=n:=Nat.eq_of_beq_eq_true hb
    have hcl:cs.length=vs.size:=by simpa using hcs.1.1
    obtain⟨w',cur',hrun,k1,k2,k3,k4,k5,k6,k7⟩:=run_storeCells (P:=P) (b:=b) (o:=off) v.cells.toList 0 vs w hblk (by rw[hsz];exact hz) (by simp;omega) hcell.2
    refine⟨w',?_,E,?_,?_⟩
    ·simp only[Instr.storeAt,Instr.sureAddr,Sem.run_bind,Sem.run_pure,Result.andThen_ok]
     rw[run_storeVar C hs (by omega)];exact hrun
    ·refine Adv.set W hab (by rw[ho];rfl) (by rw[ho];rfl) rfl ?_ k3 k4 k5 k6 k7
     rw[k1]
     refine .cells ?_ hz ?_
     ·have:=congrArg List.length k2
      simp at this;omega
     ·rw[k2]
      simpa using hcs.over hcell off hle
    ·exact .tup rfl (by simp)
   ·exact .no
theorem cells_one_pv{f:Nat→Option (Array Value)} {y:PV} {v:Value} (h:PR f y v) (ho:v.oneCell'=true):y.cells=[y]:=by
 cases y with
 |agg l=>obtain⟨vs,rfl,_⟩:=h.agg_inv;simp [Value.oneCell']at ho
 |_=>rfl
theorem reElem_cells{f:Nat→Option (Array Value)} {x y:PV} {m:List PV} {us:List Value} (h:reElem x m=some y) (hm:∀ (j:Nat) z v,m[j]?=some z→us[j]?=some v→PR f z v) (hl:m.length=us.length)
  (ho:∀ v∈us,v.oneCell'=true):y.cells=m:=by
 cases x with
 |agg l=>simp only[reElem,Option.some.injEq]at h;subst h;rfl
 |_=>
  simp only[reElem]at h
  split at h
  ·rename_i z
   simp only[Option.some.injEq]at h;subst h
   cases us with
   |nil=>simp at hl
   |cons v us=>exact cells_one_pv (hm 0 z v rfl rfl) (ho v (List.mem_cons_self ..))
  ·cases h
theorem storeEl_ok(C:CtxOk c P) (W:WR E h w) {t n i g sz k o x a v} (hs:sizeOf? c t=some n) (ha:VR E (.el i g sz k o) a) (hv:VR E x v) :
  SemU P E h w (storeEl h n i g sz k o x) (Instr.storeAt t a v):=by
 unfold storeEl
 cases hp:pure1 h x with
 |none=>exact .no
 |some r=>
  obtain⟨q,h1⟩:=r
  obtain⟨E1,A1,hq⟩:=pure1_ok (P:=P) x E h q h1 v W hv hp
  have ha1:=ha.mono A1.le
  have W1:=A1.wr
  clear ha hp hv
  cases hb:Nat.beq q.cells.length n with
  |false=>simp only[hb,cond];exact .no
  |true=>
   simp only[hb,cond]
   have hqn:q.cells.length=n:=Nat.eq_of_beq_eq_true hb
   have hcell:CR' E1 (q.cells.map .p) v.cells.toList:=cells_ok (.p hq) rfl
   have hlen:q.cells.length=v.cells.size:=by simpa using hcell.1.1
   split
   ·rename_i e sz' xs ex g' ho
    cases hgg:(Nat.beq g g'&&Nat.beq sz sz')with
    |false=>exact .no
    |true=>
     simp only[Bool.and_eq_true,Nat.beq_eq]at hgg
     obtain⟨rfl,rfl⟩:=hgg
     simp only[pget_eq,cond]
     cases hx:xs[k]? with
     |none=>exact .no
     |some y=>
      simp only[]
      intro hno
      generalize hr:overK y.cells o q.cells _ VH.no=r at hno ⊢
      have hne:r ≠ .no:=fun e=>by subst e;simp [VH.isNo]at hno
      obtain⟨hle,rfl⟩:=overK_some hr hne
      clear hr
      cases hre:reElem y (y.cells.take o++(q.cells++y.cells.drop (o+q.cells.length)))with
      |none=>simp [hre,VH.isNo]at hno
      |some y'=>
       simp only[hre,lnf_eq,hsetK_eq]at hno ⊢
       cases ha1 with
       | @el _ _ _ _ _ b m hab=>
        have hi:i<h1.length:=lt_of_hget (by rw[ho];rfl)
        have hob:=W1.obj i b m hi (by rw[ho];exact hab)
        rw[ho]at hob
        generalize hblk:w.heap[b]?=blk at hob
        cases hob with
        | @row _ _ _ _ _ _ _ vs z hsz hz h0 hn hex hel=>
         obtain⟨hyl,hyc⟩:=hel k y hx
         have hk:k<xs.length:=(List.getElem?_eq_some_iff.1 hx).1
         have hin:k*sz+sz≤xs.length*sz:=by
          have:=Nat.mul_le_mul_right sz hk
          rw[Nat.succ_mul]at this;exact this
         obtain⟨w',cur',hrun,k1,k2,k3,k4,k5,k6,k7⟩:=run_storeCells (P:=P) (b:=b) (o:=k*sz+o) v.cells.toList 0 vs w hblk (by rw[hsz];exact hz.1) (by simp;omega) hcell.2
         have hcur:∀ j,cur'[j]?=if j<k*sz+o then vs[j]? else if j<k*sz+o+v.cells.size then v.cells[j-(k*sz+o)]? else vs[j]?:=by
          intro j
          rw[← Array.getElem?_toList,k2]
          have:=getElem?_over vs.toList v.cells.toList (k*sz+o) j (by simp;omega)
          simpa using this
         -- the new element's cells, as values
         obtain ⟨us, u1, u2, u3, u4⟩ := list_of_cells hyc
         have hy'c:y'.cells=y.cells.take o++(q.cells++y.cells.drop (o+q.cells.length)):=by
          refine reElem_cells (f:=E1.f) (us:=us.take o++(v.cells.toList++us.drop (o+v.cells.toList.length))) hre ?_ (by simp;omega) ?_
          ·intro j z' u hz' hu
           rw[getElem?_over _ _ _ _ hle]at hz'
           rw[getElem?_over _ _ _ _ (by simp;omega)]at hu
           rw[show v.cells.toList.length=q.cells.length by simp;omega]at hu
           split at hz'
           ·rw[if_pos (by assumption)]at hu;exact u4 j z' u hz' hu
           ·rw[if_neg (by assumption)]at hu
            split at hz'
            ·rw[if_pos (by assumption)]at hu
             exact(hcell.1.2 _ (.p z') u (by simp [hz']) hu).p_inv
            ·rw[if_neg (by assumption)]at hu;exact u4 j z' u hz' hu
          ·intro u hu
           rcases List.mem_append.1 hu with hu|hu
           ·exact u3 u (List.mem_of_mem_take hu)
           ·rcases List.mem_append.1 hu with hu|hu
            ·exact hcell.2 u hu
            ·exact u3 u (List.mem_of_mem_drop hu)
         have B:Adv E1 h1 w E1 (hset h1 i (.row e sz (xs.set k y') ex g)) w':=by
          refine Adv.set W1 (by rw[ho];exact hab) (by rw[ho];rfl) (by rw[ho];rfl) rfl ?_ k3 k4 k5 k6 k7
          rw[k1]
          refine .row ?_ hz h0 (by simpa using hn) (by simpa using hex) ?_
          ·have:=congrArg List.length k2
           simp at this;omega
          ·intro j x' hx'
           rw[List.getElem?_set]at hx'
           split at hx'
           ·rename_i hjk
            subst hjk
            simp only[Option.some.injEq]at hx'
            subst hx'
            refine⟨by rw[hy'c];simp;omega,?_⟩
            rw[hy'c]
            intro l z' hz'
            rw[getElem?_over _ _ _ _ hle]at hz'
            show ∃ v',cur'[0+k*sz+l]?=some v'∧_
            rw[hcur]
            by_cases c1:l<o
            ·rw[if_pos c1]at hz'
             rw[if_pos (by omega)]
             exact hyc l z' hz'
            ·rw[if_neg c1]at hz'
             rw[if_neg (by omega)]
             by_cases c2:l<o+q.cells.length
             ·rw[if_pos c2]at hz'
              rw[if_pos (by omega),show 0+k*sz+l-(k*sz+o)=l-o by omega]
              have hlt:l-o<v.cells.toList.length:=by simp;omega
              refine⟨v.cells.toList[l-o]'hlt,by simp,hcell.2 _ (List.getElem_mem ..),?_⟩
              exact(hcell.1.2 (l-o) (.p z') _ (by simp [hz']) (by simp)).p_inv
             ·rw[if_neg c2]at hz'
              rw[if_neg (by omega)]
              exact hyc l z' hz'
           ·rename_i hjk
            obtain⟨g1,g2⟩:=hel j x' hx'
            refine⟨g1,?_⟩
            intro l z' hz'
            obtain⟨u,hu,hrest⟩:=g2 l z' hz'
            refine⟨u,?_,hrest⟩
            show cur'[0+j*sz+l]?=some u
            rw[hcur]
            have hl':l<sz:=by rw[← g1];exact(List.getElem?_eq_some_iff.1 hz').1
            have hdis:0+j*sz+l<k*sz+o∨k*sz+o+v.cells.size≤0+j*sz+l:=by
             rcases Nat.lt_or_gt_of_ne hjk with hlt|hlt
             ·right
              have:=Nat.mul_le_mul_right sz hlt
              rw[Nat.succ_mul]at this
              omega
             ·left
              have:=Nat.mul_le_mul_right sz hlt
              rw[Nat.succ_mul]at this
              omega
            rcases hdis with hd|hd
            ·rw[if_pos hd];exact hu
            ·rw[if_neg (by omega),if_neg (by omega)];exact hu
         refine⟨w',?_,E1,A1.trans B,.tup rfl (by simp)⟩
         simp only[Instr.storeAt,Instr.sureAddr,Sem.run_bind,Sem.run_pure,Result.andThen_ok]
         rw[run_storeVar C hs (by omega)];exact hrun
   ·exact .no
theorem store_ok(C:CtxOk c P) (W:WR E h w) {t y x a v} (ha:VR E y a) (hv:VR E x v):SemU P E h w (store? c h t y x) (Instr.storeAt t a v):=by
 unfold store?
 cases hs:sizeOf? c t with
 |none=>exact .no
 |some n=>
  simp only[]
  split
  ·exact storePtr_ok C W hs ha hv
  ·exact storeEl_ok C W hs ha hv
  ·exact .no
end
theorem beqBytes_eq:∀ (a b:List UInt8),beqBytes a b=decide (a=b):=by
 intro a
 induction a with
 |nil=>intro b;cases b<;>simp [beqBytes]
 |cons x a ih=>
  intro b
  cases b with
  |nil=>simp [beqBytes]
  |cons y b=>
   simp only[beqBytes,ih]
   by_cases e:x=y
   ·subst e;simp
   ·have:Nat.beq x.toNat y.toNat=false:=by
     cases hb:Nat.beq x.toNat y.toNat with
     |false=>rfl
     |true=>exact absurd (UInt8.toNat_inj.1 (Nat.eq_of_beq_eq_true hb)) e
    simp [this,e]
section
variable {c:Ctx} {P:Program} {E:Rn} {h:List Ob} {w:World}
theorem resI_ok(W:WR E h w) {k n} {s:Sem Value} (hs:s.run P w=.ok (.int k n) w):SemV P E h w (resI k n) s:=by
 unfold resI;rw[forceI_eq];exact .w W hs (.p (.int k n))
theorem resB_ok(W:WR E h w) {b} {s:Sem Value} (hs:s.run P w=.ok (.bool b) w):SemV P E h w (resB b) s:=by
 unfold resB;cases b
 ·exact .w W hs (.p (.bool _))
 ·exact .w W hs (.p (.bool _))
theorem onI_ok{x v f} {s:Sem Value} (hv:VR E x v) (hf:∀ k n,v=.int k n→SemV P E h w (f k n) s):SemV P E h w (onI x f) s:=by
 unfold onI
 split
 ·split
  ·have:=hv.p_inv;cases this;exact hf _ _ rfl
  ·exact .no
 ·exact .no
theorem onII_ok{x y v u f} {s:Sem Value} (hv:VR E x v) (hu:VR E y u) (hf:∀ k a j b,v=.int k a→u=.int j b→SemV P E h w (f k a j b) s):SemV P E h w (onII x y f) s:=
 onI_ok hv fun k a ha=>onI_ok hu fun j b hb=>hf k a j b ha hb
theorem onKK_ok{x y v u f} {s:Sem Value} (hv:VR E x v) (hu:VR E y u) (hf:∀ k a b,v=.int k a→u=.int k b→SemV P E h w (f k a b) s):SemV P E h w (onKK x y f) s:=by
 refine onI_ok hv fun k a ha=>onI_ok hu fun j b hb=>?_
 cases hk:Nat.beq (knd k) (knd j)with
 |false=>exact .no
 |true=>have:=knd_inj hk;subst this;exact hf k a b ha hb
def binRun(op:BinOp) (ty:TypeId) (x y:Operand) (v u:Value):Sem Value:=do eqGuard op ty x y v u;binOp op ty v u
theorem eqGuard_int{op ty x y k a j b}:(eqGuard op ty x y (.int k a) (.int j b)).run P w=.ok () w:=by cases op<;>rfl
theorem eqGuard_str{op ty x y a b}:(eqGuard op ty x y (.string a) (.string b)).run P w=.ok () w:=by cases op<;>rfl
theorem strEq(a b:ByteArray):(a.toList == b.toList)=beqBytes a.data.toList b.data.toList:=by
 rw[beqBytes_eq,ByteArray.toList_eq,ByteArray.toList_eq]
 by_cases e:a.data.toList=b.data.toList
 ·rw[decide_eq_true e,e];exact beq_self_eq_true _
 ·rw[decide_eq_false e];exact beq_eq_false_iff_ne.2 e
theorem append_data(a b:ByteArray):(a++b).data.toList=a.data.toList++b.data.toList:=by
 obtain⟨⟨x⟩⟩:=a;obtain⟨⟨y⟩⟩:=b
 have:=ByteArray.mk_append_mk x y
 simp only[List.toArray]at this
 show((ByteArray.mk ⟨x⟩)++(ByteArray.mk ⟨y⟩)).data.toList=x++y
 rw[show(ByteArray.mk ⟨x⟩++ByteArray.mk ⟨y⟩)=ByteArray.mk ⟨x++y⟩from this]
theorem bAdd_ok(W:WR E h w) {ty x y X Y v u} (hv:VR E X v) (hu:VR E Y u):SemV P E h w (bAdd X Y) (binRun .add ty x y v u):=by
 unfold bAdd
 split
 ·rename_i p
  split
  ·rename_i k a
   have:=hv.p_inv;cases this
   refine onI_ok hu fun j b hb=>?_
   subst hb
   cases hk:Nat.beq (knd k) (knd j)with
   |false=>exact .no
   |true=>
    have:=knd_inj hk;subst this
    refine resI_ok W ?_
    rw[wrapF_eq]
    simp [binRun,eqGuard_int,binOp,Op.intArith]
  ·rename_i a
   split
   ·rename_i q
    split
    ·rename_i b
     have h1:=hv.p_inv;have h2:=hu.p_inv
     cases h1 with
     |str s _ hs=>
      cases h2 with
      |str s' _ hs'=>
       subst hs;subst hs'
       cases hb:Nat.ble (s.data.toList.length+s'.data.toList.length) 9223372036854775807 with
       |false=>exact .no
       |true=>
        have hb':=Nat.le_of_ble_eq_true hb
        simp only[cond,lnf_eq]
        refine .w W (v:=.string (s++s')) ?_ (.p (.str _ _ (append_data s s')))
        have hle:¬ (((s.size+s'.size:Nat):Int) > IntKind.i64.max):=by
         have e1:s.size=s.data.toList.length:=Array.length_toList.symm
         have e2:s'.size=s'.data.toList.length:=Array.length_toList.symm
         have e3:IntKind.i64.max=9223372036854775807:=by decide
         rw[e1,e2,e3];omega
        simp only[binRun,Sem.run_bind,eqGuard_str,Result.andThen_ok,binOp,Op.stringOp,hle,if_false,Sem.run_pure]
    ·exact .no
   ·exact .no
  ·exact .no
 ·exact .no
theorem kk_ok(W:WR E h w) {op ty x y X Y v u} {f:IntKind→Int→Int→VH} (hv:VR E X v) (hu:VR E Y u)
  (hf:∀ k a b,SemV P E h w (f k a b) (binOp op ty (.int k a) (.int k b))):SemV P E h w (onKK X Y f) (binRun op ty x y v u):=by
 refine onKK_ok hv hu fun k a b ha hb=>?_
 subst ha;subst hb
 intro hno
 obtain⟨v',w',h1,h2⟩:=hf k a b hno
 exact⟨v',w',by simp [binRun,eqGuard_int,h1],h2⟩
theorem bin_arith_ok(W:WR E h w) {op:BinOp} {ty x y X Y v u} (hv:VR E X v) (hu:VR E Y u) :
  (op=.sub→SemV P E h w (bSub X Y) (binRun op ty x y v u))∧(op=.mul→SemV P E h w (bMul X Y) (binRun op ty x y v u)) ∧
  (op=.quo→SemV P E h w (bQuo X Y) (binRun op ty x y v u))∧(op=.rem→SemV P E h w (bRem X Y) (binRun op ty x y v u)) ∧
  (op=.and→SemV P E h w (bAnd X Y) (binRun op ty x y v u))∧(op=.or→SemV P E h w (bOr X Y) (binRun op ty x y v u)) ∧
  (op=.xor→SemV P E h w (bXor X Y) (binRun op ty x y v u))∧(op=.andNot→SemV P E h w (bAndNot X Y) (binRun op ty x y v u)):=by
 refine⟨?_,?_,?_,?_,?_,?_,?_,?_⟩
 ·rintro rfl
  refine kk_ok W hv hu fun k a b=>resI_ok W ?_
  rw[wrapF_eq];simp [binOp,Op.intArith];rfl
 ·rintro rfl
  refine kk_ok W hv hu fun k a b=>resI_ok W ?_
  rw[wrapF_eq];simp [binOp,Op.intArith]
 ·rintro rfl
  refine kk_ok W hv hu fun k a b=>?_
  cases hb:eqI b 0 with
  |true=>exact .no
  |false=>
   rw[eqI_eq]at hb
   have hb':b ≠ 0:=by simpa using hb
   refine resI_ok W ?_
   rw[wrapF_eq];simp [binOp,Op.intDiv,hb']
 ·rintro rfl
  refine kk_ok W hv hu fun k a b=>?_
  cases hb:eqI b 0 with
  |true=>exact .no
  |false=>
   rw[eqI_eq]at hb
   have hb':b ≠ 0:=by simpa using hb
   refine resI_ok W ?_
   simp [binOp,Op.intDiv,hb']
 ·rintro rfl;exact kk_ok W hv hu fun k a b=>resI_ok W (by simp [binOp,Op.intBits])
 ·rintro rfl;exact kk_ok W hv hu fun k a b=>resI_ok W (by simp [binOp,Op.intBits])
 ·rintro rfl;exact kk_ok W hv hu fun k a b=>resI_ok W (by simp [binOp,Op.intBits])
 ·rintro rfl;exact kk_ok W hv hu fun k a b=>resI_ok W (by simp [binOp,Op.intBits])
theorem bShl_ok(W:WR E h w) {ty x y X Y v u} (hv:VR E X v) (hu:VR E Y u):SemV P E h w (bShl X Y) (binRun .shl ty x y v u):=by
 refine onII_ok hv hu fun k a j b ha hb=>?_
 subst ha;subst hb
 cases hl:ltI b 0 with
 |true=>exact .no
 |false=>
  rw[ltI_eq]at hl
  have hl':¬ b<0:=by simpa using hl
  refine resI_ok W ?_
  rw[wrapF_eq];simp [binRun,eqGuard_int,binOp,Op.shift,hl']
theorem bShr_ok(W:WR E h w) {ty x y X Y v u} (hv:VR E X v) (hu:VR E Y u):SemV P E h w (bShr X Y) (binRun .shr ty x y v u):=by
 refine onII_ok hv hu fun k a j b ha hb=>?_
 subst ha;subst hb
 cases hl:ltI b 0 with
 |true=>exact .no
 |false=>
  rw[ltI_eq]at hl
  have hl':¬ b<0:=by simpa using hl
  exact resI_ok W (by simp [binRun,eqGuard_int,binOp,Op.shift,hl'])
theorem ordI_ok(W:WR E h w) {op ty x y X Y v u} {f:Int→Int→Bool} {g:List UInt8→List UInt8→Bool} (hv:VR E X v) (hu:VR E Y u)
  (hf:∀ k a b,(binOp op ty (.int k a) (.int k b)).run P w=.ok (.bool (f a b)) w)
  (hg:∀ a b:ByteArray,(binOp op ty (.string a) (.string b)).run P w=.ok (.bool (g a.data.toList b.data.toList)) w):SemV P E h w (ordI X Y f g) (binRun op ty x y v u):=by
 unfold ordI
 split
 ·split
  ·rename_i k a
   have:=hv.p_inv;cases this
   refine onI_ok hu fun j b hb=>?_
   subst hb
   cases hk:Nat.beq (knd k) (knd j)with
   |false=>exact .no
   |true=>
    have:=knd_inj hk;subst this
    exact resB_ok W (by simp [binRun,eqGuard_int,hf])
  ·split
   ·split
    ·have h1:=hv.p_inv;have h2:=hu.p_inv
     cases h1 with
     |str s _ hs=>
      cases h2 with
      |str s' _ hs'=>
       subst hs;subst hs'
       exact resB_ok W (by simp [binRun,eqGuard_str,hg])
    ·exact .no
   ·exact .no
  ·exact .no
 ·exact .no
theorem bLss_ok(W:WR E h w) {ty x y X Y v u} (hv:VR E X v) (hu:VR E Y u):SemV P E h w (bLss X Y) (binRun .lss ty x y v u):=
 ordI_ok W hv hu (fun k a b=>by simp [binOp,Op.intCmp,ltI_eq]) (fun a b=>by simp [binOp,Op.stringOp,ByteArray.toList_eq])
theorem bLeq_ok(W:WR E h w) {ty x y X Y v u} (hv:VR E X v) (hu:VR E Y u):SemV P E h w (bLeq X Y) (binRun .leq ty x y v u):=
 ordI_ok W hv hu (fun k a b=>by
  simp only[binOp,Op.intCmp,ltI_eq,ne_eq,not_true_eq_false,if_false,Sem.run_pure]
  congr 2;rw[Bool.eq_iff_iff];simp) (fun a b=>by simp [binOp,Op.stringOp,strEq];simp [ByteArray.toList_eq])
theorem bGtr_ok(W:WR E h w) {ty x y X Y v u} (hv:VR E X v) (hu:VR E Y u):SemV P E h w (bGtr X Y) (binRun .gtr ty x y v u):=
 ordI_ok W hv hu (fun k a b=>by simp [binOp,Op.intCmp,ltI_eq]) (fun a b=>by simp [binOp,Op.stringOp,strEq];simp [ByteArray.toList_eq])
theorem bGeq_ok(W:WR E h w) {ty x y X Y v u} (hv:VR E X v) (hu:VR E Y u):SemV P E h w (bGeq X Y) (binRun .geq ty x y v u):=
 ordI_ok W hv hu (fun k a b=>by
  simp only[binOp,Op.intCmp,ltI_eq,ne_eq,not_true_eq_false,if_false,Sem.run_pure]
  congr 2;rw[Bool.eq_iff_iff];simp) (fun a b=>by simp [binOp,Op.stringOp,ByteArray.toList_eq])
end
end Go.Ai

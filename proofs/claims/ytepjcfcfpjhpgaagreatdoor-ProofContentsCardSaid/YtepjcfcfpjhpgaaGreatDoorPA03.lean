/- What is proved: the interpreter's operations stand for the model's (comparisons, conversions, slices). Conditions: as before. -/
import Derived.Test.YtepjcfcfpjhpgaaGreatDoorPA02
import Derived.Laws.LoneSync
import Derived.Laws.IdiomStrings
import Derived.Laws.Slices
import Derived.Laws.Tables
import Derived.Laws.AppendOwn
set_option linter.all false
namespace Go.Ai
open Go Go.RowKit
section
variable {c:Ctx} {P:Program} {E:Rn} {h:List Ob} {w:World}
def eqLoop(d:Nat) (e:TypeId) (sz:Nat) (xs ys:Array Value):Nat→Nat→Sem Bool
 |0,_=>pure true
 |n+1,i=>do
  let a ← part e xs (i*sz)
  let b ← part e ys (i*sz)
  let r ← Op.equalIn d e a b
  if(!r)=true then pure false else eqLoop d e sz xs ys n (i+1)
theorem run_equalIn_array(w:World) (d:Nat) (t e:TypeId) (len sz:Nat) (xs ys:Array Value) (ht:P.underlying t=some (.array len e)) (hs:(Go.sizeOf e).run P w=.ok sz w) :
  (Op.equalIn (d+1) t (.agg xs) (.agg ys)).run P w=(eqLoop d e sz xs ys len 0).run P w:=by
 simp only[Op.equalIn,Sem.run_bind,Go.run_underlying ht,Result.andThen_ok,hs,Std.Legacy.Range.forIn_eq_forIn_range',Std.Legacy.Range.size,Nat.sub_zero,Nat.add_sub_cancel,Nat.div_one]
 clear ht hs
 generalize 0=s
 induction len generalizing w s with
 |zero=>simp [eqLoop]
 |succ n ih=>
  simp only[List.range'_succ,List.forIn_cons,eqLoop,Sem.run_bind]
  generalize (part e xs (s*sz)).run P w=r1
  cases r1 with
  |ok a w1=>
   simp only[Result.andThen_ok]
   generalize (part e ys (s*sz)).run P w1=r2
   cases r2 with
   |ok b w2=>
    simp only[Result.andThen_ok]
    generalize (Op.equalIn d e a b).run P w2=r3
    cases r3 with
    |ok r w3=>
     cases r
     ·simp
     ·simp only[Result.andThen_ok,Bool.not_true,Bool.false_eq_true,if_false,Sem.run_pure]
      exact ih w3 (s+1)
    |halt x w3=>simp [Result.andThen]
   |halt x w2=>simp [Result.andThen]
  |halt x w1=>simp [Result.andThen]
theorem part_ok(C:CtxOk c P) {f t cs off q} {vs:Array Value} (hl:cs.length=vs.size) (ho:∀ (i:Nat) (v:Value),vs[i]?=some v→v.oneCell'=true)
  (hp:∀ (i:Nat) x v,cs[i]?=some x→vs[i]?=some v→PR f x v) (hq:part? c t cs off=some q):∃ v,(part t vs off).run P w=.ok v w∧PR f q v:=by
 unfold part? at hq
 unfold part
 cases ha:aggT? c t with
 |none=>simp [ha]at hq
 |some a=>
  simp only[Sem.run_bind,run_isAgg C ha,Result.andThen_ok]
  cases a with
  |true=>
   simp only[ha]at hq
   cases hs:sizeOf? c t with
   |none=>simp [hs]at hq
   |some n=>
    simp only[hs]at hq
    obtain⟨hle,he⟩:=subK_some hq
    simp only[Option.some.injEq]at he
    subst he
    refine⟨.agg (vs.extract off (off+n)),by simp [run_sizeOf C hs],.agg (by simp;omega) ?_ ?_⟩
    ·intro i v hv
     rw[Array.getElem?_extract]at hv
     split at hv
     ·exact ho _ v hv
     ·cases hv
    ·intro i x v hx hv
     rw[Array.getElem?_extract]at hv
     rw[List.getElem?_take]at hx
     split at hx
     ·split at hv
      ·rw[List.getElem?_drop]at hx
       exact hp _ x v hx hv
      ·cases hv
     ·cases hx
  |false=>
   simp only[ha,pget_eq]at hq
   have hlt:off<vs.size:=by rw[← hl];exact(List.getElem?_eq_some_iff.1 hq).1
   have hv:vs[off]?=some (vs[off]'hlt):=by simp [hlt]
   exact⟨_,by simp [hv],hp off q _ hq hv⟩
theorem partA_ok(C:CtxOk c P) {t cs off q} {vs:Array Value} (hl:cs.length=vs.size) (ho:∀ (i:Nat) (v:Value),vs[i]?=some v→v.oneCell'=true)
  (hp:∀ (i:Nat) x v,cs[i]?=some x→vs[i]?=some v→VR E x v) (hq:partA? c t cs off=some q):∃ v,(part t vs off).run P w=.ok v w∧VR E q v:=by
 unfold partA? at hq
 unfold part
 cases ha:aggT? c t with
 |none=>simp [ha]at hq
 |some a=>
  simp only[Sem.run_bind,run_isAgg C ha,Result.andThen_ok]
  cases a with
  |true=>
   simp only[ha]at hq
   cases hs:sizeOf? c t with
   |none=>simp [hs]at hq
   |some n=>
    simp only[hs]at hq
    obtain⟨hle,he⟩:=subK_some hq
    simp only[Option.some.injEq]at he
    subst he
    refine⟨.agg (vs.extract off (off+n)),by simp [run_sizeOf C hs],mkAgg_ok ⟨⟨by simp;omega,?_⟩,?_⟩⟩
    ·intro i x v hx hv
     simp only[Array.getElem?_toList,Array.getElem?_extract]at hv
     rw[List.getElem?_take]at hx
     split at hx
     ·split at hv
      ·rw[List.getElem?_drop]at hx
       exact hp _ x v hx hv
      ·cases hv
     ·cases hx
    ·intro v hv
     obtain⟨i,hi⟩:=List.getElem?_of_mem hv
     simp only[Array.getElem?_toList,Array.getElem?_extract]at hi
     split at hi
     ·exact ho _ v hi
     ·cases hi
  |false=>
   simp only[ha,aget_eq]at hq
   have hlt:off<vs.size:=by rw[← hl];exact(List.getElem?_eq_some_iff.1 hq).1
   have hv:vs[off]?=some (vs[off]'hlt):=by simp [hlt]
   exact⟨_,by simp [hv],hp off q _ hq hv⟩
theorem eq_ok(C:CtxOk c P) {f:Nat→Option (Array Value)}:∀ k,
  (∀ t x y b v u d,eqT c k t x y=some b→PR f x v→PR f y u→k≤d→(Op.equalIn d t v u).run P w=.ok b w) ∧
  (∀ fs a a' b (vs us : Array Value) d, eqFs c k fs a a' = some b → a.length = vs.size → a'.length = us.size → (∀ (i : Nat) (v : Value), vs[i]? = some v → v.oneCell' = true) → (∀ (i : Nat) (v : Value), us[i]? = some v → v.oneCell' = true) →
   (∀ (i:Nat) x v,a[i]?=some x→vs[i]?=some v→PR f x v)→(∀ (i:Nat) x v,a'[i]?=some x→us[i]?=some v→PR f x v)→k≤d→(Op.eqFields d vs us fs).run P w=.ok b w) ∧
  (∀ e sz a a' n i b (vs us : Array Value) d, eqEs c k e sz a a' n i = some b → a.length = vs.size → a'.length = us.size → (∀ (i : Nat) (v : Value), vs[i]? = some v → v.oneCell' = true) → (∀ (i : Nat) (v : Value), us[i]? = some v → v.oneCell' = true) →
   (∀ (i:Nat) x v,a[i]?=some x→vs[i]?=some v→PR f x v)→(∀ (i:Nat) x v,a'[i]?=some x→us[i]?=some v→PR f x v)→k≤d→(eqLoop d e sz vs us n i).run P w=.ok b w):=by
 intro k
 induction k with
 |zero=>exact⟨fun _ _ _ _ _ _ _ h=>by simp [eqT]at h,fun _ _ _ _ _ _ _ h=>by simp [eqFs]at h,fun _ _ _ _ _ _ _ _ _ _ h=>by simp [eqEs]at h⟩
 |succ k ih=>
  obtain⟨ih1,ih2,ih3⟩:=ih
  refine⟨?_,?_,?_⟩
  ·intro t x y b v u d he hv hu hd
   obtain⟨d,rfl⟩:∃ m,d=m+1:=⟨d-1,by omega⟩
   simp only[eqT]at he
   split at he
   ·rename_i hu'
    split at he
    ·cases hv;cases hu
     simp only[Option.some.injEq]at he
     subst he
     exact run_equalIn_bool' w d t _ _ (C.under _ _ hu')
    ·cases he
   ·rename_i hu'
    split at he
    ·rename_i i a j b'
     cases hv;cases hu
     cases hk:Nat.beq (knd i) (knd j)with
     |false=>simp [hk]at he
     |true=>
      have:=knd_inj hk;subst this
      simp only[hk,cond,Option.some.injEq,eqI_eq]at he
      subst he
      rw[run_equalIn_int w d t i _ _ _ (C.under _ _ hu')]
      congr 1
    ·cases he
   ·rename_i hu'
    split at he
    ·cases hv with
     |str s _ hs=>
      cases hu with
      |str s' _ hs'=>
       subst hs;subst hs'
       simp only[Option.some.injEq]at he
       subst he
       rw[run_equalIn_string w d t _ _ (C.under _ _ hu'),strEq]
    ·cases he
   ·rename_i fs hu'
    split at he
    ·rename_i a b'
     cases hpl:c.plain t with
     |false=>simp [hpl]at he
     |true=>
      simp only[hpl,cond]at he
      obtain⟨vs,rfl,h1,h2,h3⟩:=hv.agg_inv
      obtain⟨us,rfl,g1,g2,g3⟩:=hu.agg_inv
      have hfs:P.fieldsOf t=fs:=by simp [Program.fieldsOf,C.under _ _ hu']
      rw[run_equalIn_agg w d t _ _ (by rw[hfs];exact C.under _ _ hu') ((C.plain _ hpl).2 _ (C.under _ _ hu')),hfs]
      exact ih2 fs.toList a b' b vs us d he h1 g1 h2 g2 h3 g3 (by omega)
    ·cases he
   ·rename_i n e hu'
    split at he
    ·rename_i a b' sz hs
     obtain⟨vs,rfl,h1,h2,h3⟩:=hv.agg_inv
     obtain⟨us,rfl,g1,g2,g3⟩:=hu.agg_inv
     rw[run_equalIn_array w d t e n sz _ _ (C.under _ _ hu') (run_sizeOf C hs w)]
     exact ih3 e sz a b' n 0 b vs us d he h1 g1 h2 g2 h3 g3 (by omega)
    ·cases he
   ·cases he
  ·intro fs a a' b vs us d he h1 g1 h2 g2 h3 g3 hd
   cases fs with
   |nil=>
    simp only[eqFs,Option.some.injEq]at he
    subst he
    rfl
   |cons fd fs=>
    simp only[eqFs]at he
    cases hn:(fd.name == "_")with
    |true=>simp [hn]at he
    |false=>
     have hne:fd.name ≠ "_" := by simpa using hn
     simp only[hn,cond]at he
     split at he
     ·rename_i x y hx hy
      obtain⟨v,r1,q1⟩:=part_ok C (w:=w) h1 h2 h3 hx
      obtain⟨u,r2,q2⟩:=part_ok C (w:=w) g1 g2 g3 hy
      simp only[Op.eqFields,ne_eq,hne,not_false_eq_true,if_true,Sem.run_bind,r1,r2,Result.andThen_ok]
      split at he
      ·rename_i htr
       rw[ih1 fd.type x y true v u d htr q1 q2 (by omega)]
       simp only[Result.andThen_ok,Bool.not_true,Bool.false_eq_true,if_false]
       exact ih2 fs a a' b vs us d he h1 g1 h2 g2 h3 g3 (by omega)
      ·rename_i hnt
       cases b with
       |true=>exact absurd he hnt
       |false=>
        rw[ih1 fd.type x y false v u d he q1 q2 (by omega)]
        rfl
     ·cases he
  ·intro e sz a a' n i b vs us d he h1 g1 h2 g2 h3 g3 hd
   cases n with
   |zero=>
    simp only[eqEs,Option.some.injEq]at he
    subst he
    rfl
   |succ n=>
    simp only[eqEs]at he
    split at he
    ·rename_i x y hx hy
     obtain⟨v,r1,q1⟩:=part_ok C (w:=w) h1 h2 h3 hx
     obtain⟨u,r2,q2⟩:=part_ok C (w:=w) g1 g2 g3 hy
     simp only[eqLoop,Sem.run_bind,r1,r2,Result.andThen_ok]
     split at he
     ·rename_i htr
      rw[ih1 e x y true v u d htr q1 q2 (by omega)]
      simp only[Result.andThen_ok,Bool.not_true,Bool.false_eq_true,if_false]
      exact ih3 e sz a a' n (i+1) b vs us d he h1 g1 h2 g2 h3 g3 (by omega)
     ·rename_i hnt
      cases b with
      |true=>exact absurd he hnt
      |false=>
       rw[ih1 e x y false v u d he q1 q2 (by omega)]
       rfl
    ·cases he
def nilV:Value→Option (Nat×Bool)
 |.pointer a=>some (1,a.isNone)
 |.slice a _ _=>some (2,a.isNone)
 |.map a=>some (3,a.isNone)
 |.nilFunc=>some (4,true)
 |.func _ _ _=>some (4,false)
 |.nilIface=>some (5,true)
 |.iface _ _=>some (5,false)
 |_=>none
theorem nil_ok{X v b} (hv:VR E X v) (hb:isNil X=some b):∃ k,nilV v=some (k,b)∧(shp X ≠ 0→shp X=k):=by
 cases hv with
 | @p q v hp=>
  cases hp<;>simp_all [isNil,nilV,shp]
 |full hp hc=>obtain⟨a,cap,rfl⟩:=hp.elems0;simp_all [isNil,nilV,shp]
 |_=>simp_all [isNil,nilV,shp]
theorem eqNilS_ok{k X Y v u b} (hv:VR E X v) (hu:VR E Y u) (hk:0<k) (he:eqNilS k X Y=some b) :
  ∃ p q,nilV v=some (k,p)∧nilV u=some (k,q)∧((p=true∧b=q)∨(p=false∧q=true∧b=false)):=by
 unfold eqNilS at he
 cases hs:(Nat.beq (shp X) k&&Nat.beq (shp Y) k)with
 |false=>simp [hs]at he
 |true=>
  simp only[hs,cond]at he
  simp only[Bool.and_eq_true,Nat.beq_eq]at hs
  unfold eqNil at he
  split at he
  ·rename_i b' hx hy
   simp only[Option.some.injEq]at he;subst he
   obtain⟨k1,e1,f1⟩:=nil_ok hv hx
   obtain⟨k2,e2,f2⟩:=nil_ok hu hy
   have:=f1 (by omega);have:=f2 (by omega)
   exact⟨true,_,by rw[e1];simp;omega,by rw[e2];simp;omega,.inl ⟨rfl,rfl⟩⟩
  ·rename_i hx hy
   simp only[Option.some.injEq]at he;subst he
   obtain⟨k1,e1,f1⟩:=nil_ok hv hx
   obtain⟨k2,e2,f2⟩:=nil_ok hu hy
   have:=f1 (by omega);have:=f2 (by omega)
   exact⟨false,_,by rw[e1];simp;omega,by rw[e2];simp;omega,.inr ⟨rfl,rfl,rfl⟩⟩
  ·cases he
end
section
variable {c:Ctx} {P:Program} {E:Rn} {h:List Ob} {w:World}
theorem eqGuard_pass(C:CtxOk c P) {op ty x y v u} (h1:v=.nilIface→u=.nilIface→(isConst x || isConst y)=true) (h2:∀ a,v=.agg a→c.plain ty=true) :
  (eqGuard op ty x y v u).run P w=.ok () w:=by
 cases v with
 |agg a=>
  cases u with
  |agg b=>exact run_eqGuard_agg w op ty x y a b (C.plain _ (h2 _ rfl)).1
  |_=>clear h1 h2;cases op<;>rfl
 |nilIface=>
  cases u with
  |nilIface=>
   have:=h1 rfl rfl
   clear h1 h2
   cases x with
   |const a=>cases op<;>rfl
   |_=>
    cases y with
    |const b=>cases op<;>rfl
    |_=>simp [isConst]at this
  |_=>clear h1 h2;cases op<;>rfl
 |_=>clear h1 h2;cases op<;>rfl
end
section
variable {c:Ctx} {P:Program} {E:Rn} {h:List Ob} {w:World}
def fitK:TypeDesc→Nat→Bool
 |.pointer _,1=>true
 |.slice _,2=>true
 |.map _ _,3=>true
 |.func _ _ _,4=>true
 |.interface _,5=>true
 |_,_=>false
theorem eqn_ok{d t k v u p q b D} (hd:P.underlying t=some D) (n1:nilV v=some (k,p)) (n2:nilV u=some (k,q)) (hb:(p=true∧b=q)∨(p=false∧q=true∧b=false)) (hk:fitK D k=true) :
  (Op.equalIn (d+1) t v u).run P w=.ok b w:=by
 cases v with
 |pointer a=>
  cases u with
  |pointer a'=>
   simp only[nilV,Option.some.injEq,Prod.mk.injEq]at n1 n2
   obtain⟨rfl,rfl⟩:=n1
   obtain⟨_,rfl⟩:=n2
   cases D<;>simp [fitK]at hk
   simp only[Op.equalIn,Sem.run_bind,Go.run_underlying hd,Result.andThen_ok]
   cases a<;>cases a'<;>simp_all
  |_=>simp only[nilV,Option.some.injEq,Prod.mk.injEq,reduceCtorEq]at n1 n2<;>first|omega|(obtain⟨_,rfl⟩:=n1;obtain⟨_,rfl⟩:=n2;simp at hb)
 |slice a l1 c1=>
  cases u with
  |slice a' l2 c2=>
   simp only[nilV,Option.some.injEq,Prod.mk.injEq]at n1 n2
   obtain⟨rfl,rfl⟩:=n1
   obtain⟨_,rfl⟩:=n2
   cases D<;>simp [fitK]at hk
   simp only[Op.equalIn,Sem.run_bind,Go.run_underlying hd,Result.andThen_ok]
   cases a<;>cases a'<;>simp_all
  |_=>simp only[nilV,Option.some.injEq,Prod.mk.injEq,reduceCtorEq]at n1 n2<;>first|omega|(obtain⟨_,rfl⟩:=n1;obtain⟨_,rfl⟩:=n2;simp at hb)
 |map a=>
  cases u with
  |map a'=>
   simp only[nilV,Option.some.injEq,Prod.mk.injEq]at n1 n2
   obtain⟨rfl,rfl⟩:=n1
   obtain⟨_,rfl⟩:=n2
   cases D<;>simp [fitK]at hk
   simp only[Op.equalIn,Sem.run_bind,Go.run_underlying hd,Result.andThen_ok]
   cases a<;>cases a'<;>simp_all
  |_=>simp only[nilV,Option.some.injEq,Prod.mk.injEq,reduceCtorEq]at n1 n2<;>first|omega|(obtain⟨_,rfl⟩:=n1;obtain⟨_,rfl⟩:=n2;simp at hb)
 |nilFunc=>
  cases u with
  |nilFunc=>
   simp only[nilV,Option.some.injEq,Prod.mk.injEq]at n1 n2
   obtain⟨rfl,rfl⟩:=n1
   obtain⟨_,rfl⟩:=n2
   cases D<;>simp [fitK]at hk
   simp only[Op.equalIn,Sem.run_bind,Go.run_underlying hd,Result.andThen_ok]
   simp_all
  |func a1 a2 a3=>
   simp only[nilV,Option.some.injEq,Prod.mk.injEq]at n1 n2
   obtain⟨rfl,rfl⟩:=n1
   obtain⟨_,rfl⟩:=n2
   cases D<;>simp [fitK]at hk
   simp only[Op.equalIn,Sem.run_bind,Go.run_underlying hd,Result.andThen_ok]
   simp_all
  |_=>simp only[nilV,Option.some.injEq,Prod.mk.injEq,reduceCtorEq]at n1 n2<;>first|omega|(obtain⟨_,rfl⟩:=n1;obtain⟨_,rfl⟩:=n2;simp at hb)
 |func a1 a2 a3=>
  cases u with
  |nilFunc=>
   simp only[nilV,Option.some.injEq,Prod.mk.injEq]at n1 n2
   obtain⟨rfl,rfl⟩:=n1
   obtain⟨_,rfl⟩:=n2
   cases D<;>simp [fitK]at hk
   simp only[Op.equalIn,Sem.run_bind,Go.run_underlying hd,Result.andThen_ok]
   simp_all
  |_=>simp only[nilV,Option.some.injEq,Prod.mk.injEq,reduceCtorEq]at n1 n2<;>first|omega|(obtain⟨_,rfl⟩:=n1;obtain⟨_,rfl⟩:=n2;simp at hb)
 |nilIface=>
  cases u with
  |nilIface=>
   simp only[nilV,Option.some.injEq,Prod.mk.injEq]at n1 n2
   obtain⟨rfl,rfl⟩:=n1
   obtain⟨_,rfl⟩:=n2
   cases D<;>simp [fitK]at hk
   simp only[Op.equalIn,Sem.run_bind,Go.run_underlying hd,Result.andThen_ok]
   simp_all
  |iface a1 a2=>
   simp only[nilV,Option.some.injEq,Prod.mk.injEq]at n1 n2
   obtain⟨rfl,rfl⟩:=n1
   obtain⟨_,rfl⟩:=n2
   cases D<;>simp [fitK]at hk
   simp only[Op.equalIn,Sem.run_bind,Go.run_underlying hd,Result.andThen_ok]
   simp_all
  |_=>simp only[nilV,Option.some.injEq,Prod.mk.injEq,reduceCtorEq]at n1 n2<;>first|omega|(obtain⟨_,rfl⟩:=n1;obtain⟨_,rfl⟩:=n2;simp at hb)
 |iface a1 a2=>
  cases u with
  |nilIface=>
   simp only[nilV,Option.some.injEq,Prod.mk.injEq]at n1 n2
   obtain⟨rfl,rfl⟩:=n1
   obtain⟨_,rfl⟩:=n2
   cases D<;>simp [fitK]at hk
   simp only[Op.equalIn,Sem.run_bind,Go.run_underlying hd,Result.andThen_ok]
   simp_all
  |_=>simp only[nilV,Option.some.injEq,Prod.mk.injEq,reduceCtorEq]at n1 n2<;>first|omega|(obtain⟨_,rfl⟩:=n1;obtain⟨_,rfl⟩:=n2;simp at hb)
 |_=>simp [nilV]at n1
theorem nilV_safe{v k p} (n:nilV v=some (k,p)):(∀ a,v ≠ .agg a)∧(∀ j a,v ≠ .int j a)∧(∀ a,v ≠ .string a)∧(∀ j a,v ≠ .float j a)∧(∀ j a d,v ≠ .complex j a d):=by
 cases v<;>simp_all [nilV]
theorem eqp_ok{d t e b n1 n2 m} (hd:P.underlying t=some (.pointer e)) (hz:(Go.sizeOf e).run P w=.ok (m+1) w) :
  (Op.equalIn (d+1) t (.pointer (some ⟨b,n1,none⟩)) (.pointer (some ⟨b,n2,none⟩))).run P w=.ok (Nat.beq n1 n2) w:=by
 simp only[Op.equalIn,Sem.run_bind,Go.run_underlying hd,Result.andThen_ok,hz]
 simp only[ne_eq,Nat.add_eq_zero_iff,Nat.succ_ne_self,and_false,not_false_eq_true,if_true,sameAddr,beq_self_eq_true,Sem.run_pure]
 congr 1
 rw[Bool.eq_iff_iff];simp
theorem equal_ok(C:CtxOk c P) (W:WR E h w) {t k X Y v u b} (hv:VR E X v) (hu:VR E Y u) (he:eq? c t k X Y=some b) :
  (Op.equal t v u).run P w=.ok b w∧(v=.nilIface→u=.nilIface→k=true)∧(∀ a,v=.agg a→c.plain t=true) ∧
  (∀ j a,v ≠ .int j a)∧(∀ a,v ≠ .string a)∧(∀ j a,v ≠ .float j a)∧(∀ j a d,v ≠ .complex j a d):=by
 have nilcase:∀ j d,0<j→c.under t=some d→eqNilS j X Y=some b →
   ((∃ e,d=.pointer e)∧j=1∨(∃ e,d=.slice e)∧j=2∨(∃ a e,d=.map a e)∧j=3∨(∃ a e f,d=.func a e f)∧j=4∨(∃ a,d=.interface a)∧j=5∧(v=.nilIface→u=.nilIface→k=true)) →
   (Op.equal t v u).run P w=.ok b w∧(v=.nilIface→u=.nilIface→k=true)∧(∀ a,v=.agg a→c.plain t=true) ∧
   (∀ j a,v ≠ .int j a)∧(∀ a,v ≠ .string a)∧(∀ j a,v ≠ .float j a)∧(∀ j a d,v ≠ .complex j a d):=by
  intro j d hj hd hs hc
  obtain⟨p,q,n1,n2,hb⟩:=eqNilS_ok hv hu hj hs
  obtain⟨s1,s2,s3,s4,s5⟩:=nilV_safe n1
  refine⟨?_,?_,fun a h=>absurd h (s1 a),s2,s3,s4,s5⟩
  ·refine eqn_ok (d:=9999) (C.under _ _ hd) n1 n2 hb ?_
   rcases hc with⟨⟨e,rfl⟩,rfl⟩|⟨⟨e,rfl⟩,rfl⟩|⟨⟨a,e,rfl⟩,rfl⟩|⟨⟨a,e,f,rfl⟩,rfl⟩|⟨⟨a,rfl⟩,rfl,hn⟩<;>rfl
  ·rcases hc with⟨⟨e,rfl⟩,rfl⟩|⟨⟨e,rfl⟩,rfl⟩|⟨⟨a,e,rfl⟩,rfl⟩|⟨⟨a,e,f,rfl⟩,rfl⟩|⟨⟨a,rfl⟩,rfl,hn⟩
   ·rintro rfl;simp [nilV]at n1
   ·rintro rfl;simp [nilV]at n1
   ·rintro rfl;simp [nilV]at n1
   ·rintro rfl;simp [nilV]at n1
   ·exact hn
 have aggcase:∀ d,c.under t=some d→((∃ fs,d=.struct fs)∨∃ n e,d=.array n e)→eqAgg c t X Y=some b →
   (Op.equal t v u).run P w=.ok b w∧(v=.nilIface→u=.nilIface→k=true)∧(∀ a,v=.agg a→c.plain t=true) ∧
   (∀ j a,v ≠ .int j a)∧(∀ a,v ≠ .string a)∧(∀ j a,v ≠ .float j a)∧(∀ j a d,v ≠ .complex j a d):=by
  intro d hd hk ha
  unfold eqAgg at ha
  split at ha
  ·rename_i p q
   cases hpl:c.plain t with
   |false=>simp [hpl]at ha
   |true=>
    simp only[hpl,cond]at ha
    have hr:=(eq_ok (w:=w) C (f:=E.f) 60).1 t p q b v u 10000 ha hv.p_inv hu.p_inv (by omega)
    have hp:∃ cs,p=.agg cs:=by
     simp only[eqT,hd]at ha
     rcases hk with⟨fs,rfl⟩|⟨n,e,rfl⟩
     ·simp only at ha
      split at ha
      ·exact⟨_,rfl⟩
      ·cases ha
     ·simp only at ha
      split at ha
      ·exact⟨_,rfl⟩
      ·cases ha
    obtain⟨cs,rfl⟩:=hp
    obtain⟨vs,rfl,_⟩:=hv.p_inv.agg_inv
    exact⟨hr,by simp,fun _ _=>rfl,by simp,by simp,by simp,by simp⟩
  ·cases ha
 unfold eq? at he
 split at he
 ·rename_i hd
  split at he
  ·split at he
   ·cases hv with
    |p hv=>
     cases hu with
     |p hu=>
      cases hv;cases hu
      simp only[Option.some.injEq]at he
      subst he
      exact⟨run_equalIn_bool' w 9999 t _ _ (C.under _ _ hd),by simp,by simp,by simp,by simp,by simp,by simp⟩
   ·cases he
  ·cases he
 ·rename_i e hd
  split at he
  ·rename_i i o j q n hs
   unfold eqPtr at he
   cases hij:Nat.beq i j with
   |false=>simp [hij]at he
   |true=>
    have:=Nat.eq_of_beq_eq_true hij
    subst this
    simp only[hij,cond,Option.some.injEq]at he
    subst he
    cases hv with
    | @ptr _ _ b1 n1 ha=>
     cases hu with
     | @ptr _ _ b2 n2 ha'=>
      rw[ha]at ha';cases ha'
      refine⟨?_,by simp,by simp,by simp,by simp,by simp,by simp⟩
      refine(eqp_ok (d:=9999) (C.under _ _ hd) (run_sizeOf C hs w)).trans ?_
      congr 1
  ·exact nilcase 1 _ (by omega) hd he (.inl ⟨⟨_,rfl⟩,rfl⟩)
 ·rename_i hd;exact nilcase 2 _ (by omega) hd he (.inr (.inl ⟨⟨_,rfl⟩,rfl⟩))
 ·rename_i hd;exact nilcase 3 _ (by omega) hd he (.inr (.inr (.inl ⟨⟨_,_,rfl⟩,rfl⟩)))
 ·rename_i hd;exact nilcase 4 _ (by omega) hd he (.inr (.inr (.inr (.inl ⟨⟨_,_,_,rfl⟩,rfl⟩))))
 ·rename_i hd
  cases hb:(isNili X&&isNili Y && !k)with
  |true=>simp [hb]at he
  |false=>
   simp only[hb,cond]at he
   refine nilcase 5 _ (by omega) hd he (.inr (.inr (.inr (.inr ⟨⟨_,rfl⟩,rfl,?_⟩))))
   rintro rfl rfl
   cases k with
   |true=>rfl
   |false=>
    exfalso
    obtain⟨p,q,n1,n2,_⟩:=eqNilS_ok hv hu (by omega) he
    unfold eqNilS at he
    cases hs:(Nat.beq (shp X) 5&&Nat.beq (shp Y) 5)with
    |false=>simp [hs]at he
    |true=>
     simp only[Bool.and_eq_true,Nat.beq_eq]at hs
     have f1:isNili X=true:=by
      cases hv with
      |un=>simp [shp]at hs
      |p hp=>cases hp;rfl
      |full hp hc=>obtain⟨_,_,h⟩:=hp.elems0;cases h
     have f2:isNili Y=true:=by
      cases hu with
      |un=>simp [shp]at hs
      |p hp=>cases hp;rfl
      |full hp hc=>obtain⟨_,_,h⟩:=hp.elems0;cases h
     simp [f1,f2]at hb
 ·rename_i hd;exact aggcase _ hd (.inl ⟨_,rfl⟩) he
 ·rename_i hd;exact aggcase _ hd (.inr ⟨_,_,rfl⟩) he
 ·cases he
end
section
variable {c:Ctx} {P:Program} {E:Rn} {h:List Ob} {w:World}
theorem binOp_eql{ty v u} (h1:∀ j a,v ≠ .int j a) (h2:∀ a,v ≠ .string a) (h3:∀ j a,v ≠ .float j a) (h4:∀ j a d,v ≠ .complex j a d) :
  binOp .eql ty v u=(do pure (.bool (← Op.equal ty v u)))∧binOp .neq ty v u=(do pure (.bool (!(← Op.equal ty v u)))):=by
 cases v<;>first|exact absurd rfl (h1 _ _)|exact absurd rfl (h2 _)|exact absurd rfl (h3 _ _)|exact absurd rfl (h4 _ _ _)|exact⟨rfl,rfl⟩
theorem bEql_ok(C:CtxOk c P) (W:WR E h w) {ty x y X Y v u} (hv:VR E X v) (hu:VR E Y u):SemV P E h w (bEql c ty (isConst x || isConst y) X Y) (binRun .eql ty x y v u):=by
 have hord:SemV P E h w (ordI X Y eqI beqBytes) (binRun .eql ty x y v u):=
  ordI_ok W hv hu (fun k a b=>by simp [binOp,Op.intCmp,eqI_eq];rfl) (fun a b=>by simp [binOp,Op.stringOp,strEq])
 have heq:SemV P E h w (match eq? c ty (isConst x || isConst y) X Y with|some b=>resB b|none=>.no) (binRun .eql ty x y v u):=by
  cases he:eq? c ty (isConst x || isConst y) X Y with
  |none=>exact .no
  |some b=>
   obtain⟨hr,a1,a2,a3,a4,a5,a6⟩:=equal_ok C W hv hu he
   refine resB_ok W ?_
   simp only[binRun,Sem.run_bind,eqGuard_pass C a1 a2,Result.andThen_ok,(binOp_eql a3 a4 a5 a6).1,hr,Sem.run_pure]
 unfold bEql
 split
 ·split
  ·exact hord
  ·exact hord
  ·exact heq
 ·exact heq
theorem bNeq_ok(C:CtxOk c P) (W:WR E h w) {ty x y X Y v u} (hv:VR E X v) (hu:VR E Y u):SemV P E h w (bNeq c ty (isConst x || isConst y) X Y) (binRun .neq ty x y v u):=by
 have hord:SemV P E h w (ordI X Y (fun a b=>!eqI a b) (fun a b=>!beqBytes a b)) (binRun .neq ty x y v u):=
  ordI_ok W hv hu (fun k a b=>by simp [binOp,Op.intCmp,eqI_eq,bne];rfl) (fun a b=>by simp [binOp,Op.stringOp,strEq])
 have heq:SemV P E h w (match eq? c ty (isConst x || isConst y) X Y with|some b=>resB (!b)|none=>.no) (binRun .neq ty x y v u):=by
  cases he:eq? c ty (isConst x || isConst y) X Y with
  |none=>exact .no
  |some b=>
   obtain⟨hr,a1,a2,a3,a4,a5,a6⟩:=equal_ok C W hv hu he
   refine resB_ok W ?_
   simp only[binRun,Sem.run_bind,eqGuard_pass C a1 a2,Result.andThen_ok,(binOp_eql a3 a4 a5 a6).2,hr,Sem.run_pure]
 unfold bNeq
 split
 ·split
  ·exact hord
  ·exact hord
  ·exact heq
 ·exact heq
theorem bin_ok(C:CtxOk c P) (W:WR E h w) {op ty x y X Y v u} (hv:VR E X v) (hu:VR E Y u):SemV P E h w (bin2 op c ty (isConst x || isConst y) X Y) (binRun op ty x y v u):=by
 obtain⟨h1,h2,h3,h4,h5,h6,h7,h8⟩:=bin_arith_ok (op:=op) (ty:=ty) (x:=x) (y:=y) W hv hu
 cases op with
 |add=>exact bAdd_ok W hv hu
 |sub=>exact h1 rfl
 |mul=>exact h2 rfl
 |quo=>exact h3 rfl
 |rem=>exact h4 rfl
 |and=>exact h5 rfl
 |or=>exact h6 rfl
 |xor=>exact h7 rfl
 |andNot=>exact h8 rfl
 |shl=>exact bShl_ok W hv hu
 |shr=>exact bShr_ok W hv hu
 |eql=>exact bEql_ok C W hv hu
 |neq=>exact bNeq_ok C W hv hu
 |lss=>exact bLss_ok W hv hu
 |leq=>exact bLeq_ok W hv hu
 |gtr=>exact bGtr_ok W hv hu
 |geq=>exact bGeq_ok W hv hu
end
section
variable {c:Ctx} {P:Program} {E:Rn} {h:List Ob} {w:World}
theorem un1_ok(W:WR E h w) {op X v} (hv:VR E X v):SemV P E h w (un1 op X) (Op.unary op v):=by
 cases op with
 |neg=>
  refine onI_ok hv fun k n hk=>?_
  subst hk
  exact resI_ok W (by simp only[Op.unary,Op.intArith,wrapF_eq];rfl)
 |xor=>
  refine onI_ok hv fun k n hk=>?_
  subst hk
  exact resI_ok W (by simp only[Op.unary,Op.intBits];rfl)
 |not=>
  simp only[un1]
  split
  ·split
   ·have:=hv.p_inv;cases this;exact resB_ok W rfl
   ·exact .no
  ·exact .no
 |plus=>exact .no
theorem isNil_false{X v} (hv:VR E X v) (hb:isNil X=some false) :
  v ≠ .pointer none∧v ≠ .nilIface∧v ≠ .nilFunc∧∀ m a b,v ≠ .func (.method m) a b:=by
 cases hv with
 |p hp=>cases hp<;>simp_all [isNil]
 |full hp hc=>obtain⟨a,n,rfl⟩:=hp.elems0;simp
 |_=>simp_all [isNil]
theorem convP_ok(C:CtxOk c P) (W:WR E h w) {src dst X v S} (hs:c.under src=some S) (hv:VR E X v):SemV P E h w (convP c dst X) (convert src dst v):=by
 unfold convP
 split
 ·rename_i k hd
  refine onI_ok hv fun j n hk=>?_
  subst hk
  exact resI_ok W (by simp [convert,run_underlying C hs,run_underlying C hd,Conv.intToInt,wrapF_eq])
 ·rename_i hd
  split
  ·split
   ·have:=hv.p_inv;cases this
    exact .w W (by simp [convert,run_underlying C hs,run_underlying C hd]) hv
   ·exact .no
  ·exact .no
 ·exact .no
theorem convUp_ok(C:CtxOk c P) (W:WR E h w) {src dst t X v} (hs:c.under src=some (.pointer t)) (hd:c.under dst=some .unsafePointer) (hv:VR E X v) :
  SemV P E h w (convUp c h t X) (convert src dst v):=by
 unfold convUp
 split
 ·rename_i i off
  split
  ·rename_i e cs m ho hm
   cases hb:Nat.blt off cs.length with
   |false=>exact .no
   |true=>
    have hlt:off<cs.length:=Nat.le_of_ble_eq_true hb
    cases hv with
    | @ptr _ _ b n ha=>
     have hi:i<h.length:=lt_of_hget (by rw[ho];rfl)
     have hor:=W.obj i b n hi (by rw[ho];exact ha)
     rw[ho]at hor
     cases hw:w.heap[b]? with
     |none=>rw[hw]at hor;cases hor
     |some ob=>
      rw[hw]at hor
      cases hor with
      | @cells _ _ _ _ vs z hsz hz hc=>
       have hvs:off<vs.size:=by have:=hc.1.1;simp at this;omega
       refine .w W ?_ (.ptr ha)
       refine run_convert_to_unsafe (C.under _ _ hs) (C.under _ _ hd) ?_ (v:=vs[off]) ?_
       ·unfold sizeOf? at hm
        split at hm
        ·rename_i ti hti
         rw[C.info _ _ hti]
         simp only[Option.some.injEq]at hm
         simp [hm]
        ·cases hm
       ·rw[cell_cells hw];simp [hvs]
  ·exact .no
 ·exact .no
theorem convDown_ok(C:CtxOk c P) (W:WR E h w) {src dst u X v} (hs:c.under src=some .unsafePointer) (hd:c.under dst=some (.pointer u)) (hv:VR E X v) :
  SemV P E h w (convDown c h u X) (convert src dst v):=by
 unfold convDown
 split
 ·rename_i i off
  split
  ·rename_i e cs m ho hm
   cases hb:c.lies e cs.length off u with
   |false=>exact .no
   |true=>
    cases hv with
    | @ptr _ _ b n ha=>
     have hi:i<h.length:=lt_of_hget (by rw[ho];rfl)
     have hor:=W.obj i b n hi (by rw[ho];exact ha)
     rw[ho]at hor
     cases hw:w.heap[b]? with
     |none=>rw[hw]at hor;cases hor
     |some ob=>
      rw[hw]at hor
      cases hor with
      | @cells _ _ _ _ vs z hsz hz hc=>
       have hl:cs.length=vs.size:=by have:=hc.1.1;simpa using this
       refine .w W ?_ (.ptr ha)
       have hsh:w.shape? b=some (e,vs.size):=by simp [World.shape?,hw]
       have hz0:=run_sizeOf C hm w
       have hli:=C.lies _ _ _ _ hb
       rw[hl]at hli
       simp [convert,Conv.unsafePointer,Conv.seenAt,viewAt,variablesAt,run_underlying C hs,run_underlying C hd,hsh,hz0,hli,run_program,Result.andThen]
  ·exact .no
 ·exact .no
theorem bytesOf_ok:∀ (l:List PV) (b:List UInt8),bytesOf l=some b→∀ (vs:List Value),l.length=vs.length→(∀ (i:Nat) x v,l[i]?=some x→vs[i]?=some v→PR E.f x v) →
  ∃ ns:List Int,vs=ns.map (Value.int .u8)∧b=ns.map (fun n=>UInt8.ofNat n.toNat)
 | [],b,hb,vs,hl,_=>by
  simp only[bytesOf,Option.some.injEq]at hb
  subst hb
  cases vs with
  |nil=>exact⟨[],rfl,rfl⟩
  |cons _ _=>simp at hl
 |x::l,b,hb,vs,hl,hp=>by
  cases vs with
  |nil=>simp at hl
  |cons v vs=>
   simp only[bytesOf]at hb
   split at hb
   ·rename_i n
    split at hb
    ·rename_i m hm
     simp only[Option.some.injEq]at hb
     subst hb
     obtain⟨ns,rfl,rfl⟩:=bytesOf_ok l m hm vs (by simpa using hl) (fun i y u hy hu=>hp (i+1) y u (by simpa using hy) (by simpa using hu))
     have:=hp 0 _ v rfl rfl
     cases this
     exact⟨n::ns,rfl,rfl⟩
    ·cases hb
   ·cases hb
theorem foldl_push(l:List Int):∀ (r:ByteArray),(l.foldl (fun r n=>r.push (UInt8.ofNat n.toNat)) r).data.toList=r.data.toList++l.map (fun n=>UInt8.ofNat n.toNat):=by
 induction l with
 |nil=>intro r;simp
 |cons x l ih=>intro r;rw[List.foldl_cons,ih];simp [ByteArray.push]
end
section
variable {c:Ctx} {P:Program} {E:Rn} {h:List Ob} {w:World}
inductive EL (E:Rn) (w:World) (sz:Nat) (xs:List PV):Value→Prop
 |nil (hx:xs=[]):EL E w sz xs (.slice none 0 0)
 |row {b off cap} (hc:xs.length≤cap) (h:ElemsG E.f (fun o=>w.cell? ⟨b,o,none⟩) off sz xs):EL E w sz xs (.slice (some ⟨b,off,none⟩) xs.length cap)
 |str (s:ByteArray) (h1:sz=1) (hx:xs=bytesPV s.data.toList):EL E w sz xs (.string s)
theorem sub?_some{α:Type} {l m:List α} {off n:Nat} (h:sub? l off n=some m):off+n≤l.length∧m=(l.drop off).take n:=by
 unfold sub? at h
 cases hb:Nat.ble (off+n) l.length with
 |false=>simp [hb]at h
 |true=>rw[hb]at h;simp only[cond,Option.some.injEq]at h;exact⟨Nat.le_of_ble_eq_true hb,h.symm⟩
theorem EL.vec(W:WR E h w) {sz xs v} (h0:0<sz) (hp:PR E.f (.vec sz xs) v):EL E w sz xs v:=by
 obtain⟨b,off,cap,rfl,hc,he⟩:=hp.elems (.inl h0)
 exact .row hc (he.mono (fun _ _ h=>h) fun o v hv=>frz_cell W hv)
theorem elems_ok(W:WR E h w) {X v sz xs} (h0:0<sz) (hv:VR E X v) (he:elems? h X=some xs) (hs:szIsB sz X=true):EL E w sz xs v:=by
 cases X with
 |p p=>
  have hp:=hv.p_inv
  cases p with
  |nils=>cases hp;simp only[elems?,Option.some.injEq]at he;subst he;exact .nil rfl
  |vec s ys=>
   simp only[elems?,Option.some.injEq]at he;subst he
   simp only[szIsB,Nat.beq_eq]at hs;subst hs
   exact .vec W h0 hp
  |str s=>
   cases hp with
   |str s' l hl=>
    simp only[elems?,Option.some.injEq]at he;subst he
    simp only[szIsB,Nat.beq_eq]at hs
    exact .str s' hs (by rw[hl])
  |_=>simp [elems?]at he
 |full s ys=>
  simp only[elems?,Option.some.injEq]at he;subst he
  simp only[szIsB,Nat.beq_eq]at hs;subst hs
  cases hv with
  |full hp hc=>exact .vec W h0 hp
 |sl i g s off len=>
  simp only[szIsB,Nat.beq_eq]at hs;subst hs
  simp only[elems?,elemsSl]at he
  cases hr:rowAt h i g s with
  |none=>simp [hr]at he
  |some ys=>
   simp only[hr]at he
   obtain⟨hle,rfl⟩:=sub?_some he
   cases hv with
   | @sl _ _ _ _ _ b n cap ha hc hl hs0=>
    obtain⟨f,h1,h2,h3⟩:=row_elems W ha hr
    have hlen:((ys.drop off).take len).length=len:=by simp;omega
    have:=EL.row (E:=E) (w:=w) (b:=b) (off:=off*s) (cap:=cap) (sz:=s) (xs:=(ys.drop off).take len) (by rw[hlen];exact hl) ((h2.drop off len).mono (fun _ _ h=>h) h1)
    rwa[hlen]at this
 |asl i off len s=>
  simp only[szIsB,Nat.beq_eq]at hs;subst hs
  simp only[elems?,elemsAsl]at he
  cases hb:Nat.beq s 1 with
  |false=>simp [hb]at he
  |true=>
   have hs1:=Nat.eq_of_beq_eq_true hb
   subst hs1
   simp only[hb,cond]at he
   split at he
   ·rename_i e cs ho
    split at he
    ·rename_i m hm
     obtain⟨hle,rfl⟩:=sub?_some hm
     cases hv with
     | @asl _ _ _ _ b n cap ha hl=>
      obtain⟨b',n',vs,z,hptr,hab,hblk,hsz,hz,hcs⟩:=ptr_cells (off:=off) W (.ptr ha) ho
      simp only[Value.pointer.injEq,Option.some.injEq,Addr.mk.injEq,and_true]at hptr
      subst hptr
      have hps:=allP_ok he
      have hlen:xs.length=len:=by
       have:=congrArg List.length hps
       simp at this;omega
      rw[← hlen]at hl ⊢
      refine .row hl ?_
      intro j x hx
      have hj:j<xs.length:=(List.getElem?_eq_some_iff.1 hx).1
      have hcs':cs[off+j]?=some (.p x):=by
       have h1:((cs.drop off).take len)[j]?=some (AV.p x):=by rw[hps];simp [hx]
       rw[List.getElem?_take,if_pos (by omega),List.getElem?_drop]at h1
       exact h1
      have hlt:off+j<vs.toList.length:=by
       rw[← hcs.1.1];exact(List.getElem?_eq_some_iff.1 hcs').1
      have hvj:vs.toList[off+j]?=some (vs.toList[off+j]'hlt):=by simp
      have hpr:=(hcs.1.2 _ _ _ hcs' hvj).p_inv
      have hone:=hcs.2 _ (List.mem_of_getElem? hvj)
      have hxc:x.cells=[x]:=by
       cases x with
       |agg l=>obtain⟨vs',he',_⟩:=hpr.agg_inv;rw[he']at hone;simp [Value.oneCell']at hone
       |_=>rfl
      refine⟨by rw[hxc];rfl,?_⟩
      rw[hxc]
      intro k y hy
      cases k with
      |zero=>
       simp only[List.getElem?_cons_zero,Option.some.injEq]at hy;subst hy
       refine⟨_,?_,hone,hpr⟩
       show w.cell? ⟨b,off+j*1+0,none⟩=_
       rw[cell_cells hblk,← Array.getElem?_toList]
       simpa using hvj
      |succ k=>simp at hy
    ·cases he
   ·cases he
 |_=>simp [elems?]at he
theorem list_of_elems{f:Nat→Option (Array Value)} {g:Nat→Option Value} {sz:Nat}:∀ {xs:List PV} {off:Nat},ElemsG f g off sz xs →
  ∃ vs:List Value,vs.length=xs.length*sz∧(∀ (j:Nat) v,vs[j]?=some v→g (off+j)=some v)∧(∀ v∈vs,v.oneCell'=true)∧ElemsG f (fun o=>vs[o]?) 0 sz xs
 | [],off,_=>⟨[],by simp,by simp,by simp,by intro i x hx;simp at hx⟩
 |x::xs,off,he=>by
  obtain⟨hx,hc⟩:=he 0 x rfl
  obtain⟨us,u1,u2,u3,u4⟩:=list_of_cells hc
  obtain⟨vs,k1,k2,k3,k4⟩:=list_of_elems (xs:=xs) (off:=off+sz) (fun i y hy=>by
   obtain⟨a,b⟩:=he (i+1) y (by simpa using hy)
   refine⟨a,?_⟩
   rwa[show off+sz+i*sz=off+(i+1)*sz by rw[Nat.succ_mul];omega])
  have hul:us.length=sz:=by omega
  refine⟨us++vs,by simp [hul,k1,Nat.succ_mul];omega,?_,?_,?_⟩
  ·intro j v hv
   by_cases hj:j<us.length
   ·rw[List.getElem?_append_left hj]at hv
    have:=u2 j v hv
    simpa using this
   ·rw[List.getElem?_append_right (by omega)]at hv
    have:=k2 _ v hv
    rwa[show off+sz+(j-us.length)=off+j by omega]at this
  ·intro v hv
   rcases List.mem_append.1 hv with hv|hv
   ·exact u3 v hv
   ·exact k3 v hv
  ·intro i y hy
   cases i with
   |zero=>
    simp only[List.getElem?_cons_zero,Option.some.injEq]at hy;subst hy
    refine⟨hx,?_⟩
    intro j z hz
    have hj:j<us.length:=by rw[u1];exact(List.getElem?_eq_some_iff.1 hz).1
    refine⟨us[j],?_,u3 _ (List.getElem_mem ..),u4 j z _ hz (by simp)⟩
    show(us++vs)[0+0*sz+j]?=_
    rw[show 0+0*sz+j=j by omega,List.getElem?_append_left hj];simp
   |succ i=>
    obtain⟨a,b⟩:=k4 i y (by simpa using hy)
    refine⟨a,?_⟩
    intro j z hz
    obtain⟨v,hv,hrest⟩:=b j z hz
    refine⟨v,?_,hrest⟩
    show(us++vs)[0+(i+1)*sz+j]?=_
    rw[List.getElem?_append_right (by rw[Nat.succ_mul];omega),Nat.succ_mul]
    rw[show 0+(i*sz+sz)+j-us.length=0+i*sz+j by omega]
    exact hv
theorem bytesPV_elems(f) (l:List UInt8):ElemsG f (fun o=>(l.map fun b=>Value.int .u8 b.toNat)[o]?) 0 1 (bytesPV l):=by
 intro i x hx
 simp only[bytesPV,List.getElem?_map]at hx
 cases hl:l[i]? with
 |none=>simp [hl]at hx
 |some b=>
  simp only[hl,Option.map_some,Option.some.injEq]at hx
  subst hx
  refine⟨rfl,?_⟩
  intro j y hy
  cases j with
  |zero=>
   simp only[PV.cells,List.getElem?_cons_zero,Option.some.injEq]at hy;subst hy
   exact⟨.int .u8 b.toNat,by simp [hl],rfl,.int _ _⟩
  |succ j=>simp [PV.cells]at hy
theorem EL.first{sz xs v} (he:EL E w sz xs v) (m:Nat) (hm:m≤xs.length) :
  ∃ cs:List Value,(Builtin.firstCells sz m v).run P w=.ok cs.toArray w∧cs.length=m*sz∧(∀ u∈cs,u.oneCell'=true)∧ElemsG E.f (fun o=>cs[o]?) 0 sz (xs.take m):=by
 cases he with
 |nil hx=>subst hx;simp at hm;subst hm;exact⟨[],run_firstCells_none w _ _ _ _,by simp,by simp,by intro i x hx;simp at hx⟩
 | @row b off cap hc hel=>
  have h1:ElemsG E.f (fun o=>w.cell? ⟨b,o,none⟩) off sz (xs.take m):=by
   intro i x hx
   rw[List.getElem?_take]at hx
   split at hx
   ·exact hel i x hx
   ·cases hx
  obtain⟨cs,k1,k2,k3,k4⟩:=list_of_elems h1
  have hl:(xs.take m).length=m:=by simp;omega
  rw[hl]at k1
  exact⟨cs,run_firstCells_some w sz m ⟨b,off,none⟩ _ _ cs k1 (fun j v hj=>by rw[addr_add];exact k2 j v hj),k1,k3,k4⟩
 |str s h1 hx=>
  subst h1;subst hx
  have hbl:(bytesPV s.data.toList).length=s.size:=by simp [bytesPV]
  refine⟨(s.data.toList.map fun b=>Value.int .u8 b.toNat).take m,?_,?_,?_,?_⟩
  ·simp only[Builtin.firstCells,Sem.run_pure]
   congr 1
   apply Array.ext'
   simp
  ·simp [bytesPV]at hm ⊢;omega
  ·intro u hu
   have:=List.mem_of_mem_take hu
   simp only[List.mem_map]at this
   obtain⟨b,_,rfl⟩:=this;rfl
  ·intro i x hx
   rw[List.getElem?_take]at hx
   split at hx
   ·obtain⟨a,b⟩:=bytesPV_elems E.f s.data.toList i x hx
    refine⟨a,?_⟩
    intro j y hy
    obtain⟨v,hv,hr⟩:=b j y hy
    have hj:j<1:=by rw[← a];exact(List.getElem?_eq_some_iff.1 hy).1
    refine⟨v,?_,hr⟩
    show((s.data.toList.map fun b=>Value.int .u8 b.toNat).take m)[0+i*1+j]?=_
    rw[List.getElem?_take,if_pos (by omega)];exact hv
   ·cases hx
theorem EL.len{sz xs v} (he:EL E w sz xs v):(Builtin.lenOf v).run P w=.ok xs.length w:=by
 cases he with
 |nil hx=>subst hx;rfl
 |row hc hel=>rfl
 |str s h1 hx=>subst hx;simp [Builtin.lenOf,bytesPV]
end
section
variable {c:Ctx} {P:Program} {E:Rn} {h:List Ob} {w:World}
theorem ElemsG.over{f:Nat→Option (Array Value)} {sz off:Nat} {xs ys:List PV} {vs ns:List Value} (h1:ElemsG f (fun o=>vs[o]?) 0 sz xs) (h2:ElemsG f (fun o=>ns[o]?) 0 sz ys)
  (hl:ns.length=ys.length*sz) (hle:off+ys.length≤xs.length) (hv:xs.length*sz≤vs.length) :
  ElemsG f (fun o=>(vs.take (off*sz)++(ns++vs.drop (off*sz+ns.length)))[o]?) 0 sz (xs.take off++(ys++xs.drop (off+ys.length))):=by
 have hm:(off+ys.length)*sz≤xs.length*sz:=Nat.mul_le_mul_right _ hle
 rw[Nat.add_mul]at hm
 intro i x hx
 rw[getElem?_over _ _ _ _ hle]at hx
 have key:∀ o,(vs.take (off*sz)++(ns++vs.drop (off*sz+ns.length)))[o]?=if o<off*sz then vs[o]? else if o<off*sz+ns.length then ns[o-off*sz]? else vs[o]?:=
  fun o=>getElem?_over vs ns (off*sz) o (by omega)
 split at hx
 ·rename_i c1
  obtain⟨a,b⟩:=h1 i x hx
  refine⟨a,fun j y hy=>?_⟩
  obtain⟨v,hv',hr⟩:=b j y hy
  have hj:j<sz:=by rw[← a];exact(List.getElem?_eq_some_iff.1 hy).1
  have:=Nat.mul_le_mul_right sz c1
  rw[Nat.succ_mul]at this
  exact⟨v,by show _[0+i*sz+j]?=_;rw[key,if_pos (by omega)];exact hv',hr⟩
 ·rename_i c1
  split at hx
  ·rename_i c2
   obtain⟨a,b⟩:=h2 (i-off) x hx
   refine⟨a,fun j y hy=>?_⟩
   obtain⟨v,hv',hr⟩:=b j y hy
   have hj:j<sz:=by rw[← a];exact(List.getElem?_eq_some_iff.1 hy).1
   have e1:i*sz=off*sz+(i-off)*sz:=by rw[← Nat.add_mul];congr 1;omega
   have e2:(i-off+1)*sz≤ys.length*sz:=Nat.mul_le_mul_right _ (by omega)
   rw[Nat.succ_mul]at e2
   refine⟨v,?_,hr⟩
   show _[0+i*sz+j]?=_
   rw[key,if_neg (by omega),if_pos (by omega),show 0+i*sz+j-off*sz=0+(i-off)*sz+j by omega]
   exact hv'
  ·rename_i c2
   obtain⟨a,b⟩:=h1 i x hx
   refine⟨a,fun j y hy=>?_⟩
   obtain⟨v,hv',hr⟩:=b j y hy
   have:=Nat.mul_le_mul_right sz (Nat.not_lt.1 c2)
   rw[Nat.add_mul]at this
   refine⟨v,?_,hr⟩
   show _[0+i*sz+j]?=_
   rw[key,if_neg (by omega),if_neg (by omega)]
   exact hv'
theorem row_lies(W:WR E h w) {i g b n e sz xs ex} (ho:hget h i=.row e sz xs ex g) (ha:E.a i g=some (b,n)) :
  ∃ vs z,w.heap[b]?=some (.cells vs e z)∧vs.size=n∧softR e z n∧0<sz∧xs.length*sz≤n∧(ex=true→n=xs.length*sz)∧ElemsG E.f (fun o=>vs[o]?) 0 sz xs:=by
 have hi:i<h.length:=lt_of_hget (by rw[ho];rfl)
 have hob:=W.obj i b n hi (by rw[ho];exact ha)
 rw[ho]at hob
 generalize hx:w.heap[b]?=x at hob
 cases hob with
 | @row _ _ _ _ _ _ _ vs z hs hz h0 hn he hel=>exact⟨vs,z,rfl,hs,hz,h0,hn,he,hel⟩
theorem rowOver_ok(W:WR E h w) {i g b n e sz xs ex off new ns} (ho:hget h i=.row e sz xs ex g) (ha:E.a i g=some (b,n)) (hle:off+new.length≤xs.length)
  (hl:ns.length=new.length*sz) (h1:∀ u∈ns,u.oneCell'=true) (hel:ElemsG E.f (fun o=>ns[o]?) 0 sz new) :
  ∃ w',(storeCells ⟨b,off*sz,none⟩ ns).run P w=.ok () w'∧Adv E h w E (hset h i (.row e sz (xs.take off++(new++xs.drop (off+new.length))) ex g)) w':=by
 obtain⟨vs,z,hblk,hsz,hz,h0,hn,hex,hel0⟩:=row_lies W ho ha
 have hm:(off+new.length)*sz≤xs.length*sz:=Nat.mul_le_mul_right _ hle
 rw[Nat.add_mul]at hm
 obtain⟨w',cur',hrun,k1,k2,k3,k4,k5,k6,k7⟩:=run_storeCells (P:=P) (b:=b) (o:=off*sz) ns 0 vs w hblk (by rw[hsz];exact hz.1) (by omega) h1
 have hlen:cur'.size=vs.size:=by have:=congrArg List.length k2;simp at this;omega
 refine⟨w',hrun,Adv.set W (by rw[ho];exact ha) (by rw[ho];rfl) (by rw[ho];rfl) rfl ?_ k3 k4 k5 k6 k7⟩
 rw[k1]
 have hxl:(xs.take off++(new++xs.drop (off+new.length))).length=xs.length:=by simp;omega
 refine .row (by omega) hz h0 (by rw[hxl];exact hn) (by rw[hxl];exact hex) ?_
 have:=ElemsG.over (vs:=vs.toList) (by simpa using hel0) hel hl hle (by simp;omega)
 have e1:(fun o:Nat=>cur'[o]?)=fun o:Nat=>(vs.toList.take (off*sz)++(ns++vs.toList.drop (off*sz+ns.length)))[o]?:=by
  funext o
  rw[← Array.getElem?_toList,k2]
  simp
 rw[e1];exact this
theorem newRow_ok(W:WR E h w) {e sz xs ex n cap ns z} (d:Nat) (h0:0<sz) (hel:ElemsG E.f (fun o=>ns[o]?) 0 sz xs) (hn:xs.length*sz≤ns.size) (hex:ex=true→ns.size=xs.length*sz)
  (hc:cap*sz=ns.size) (hz:softR e z ns.size) (hl:n≤cap) :
  VP E h w (newRow h e sz xs ex n) (.slice (some ⟨w.heap.size,0,none⟩) n cap) {w with drawn:=d,heap:=w.heap.push (.cells ns e z)}:=by
 unfold newRow
 simp only[forceN_eq,lnf_eq]
 have A:=Adv.drawn W d
 have B:=Adv.push (n:=ns.size) A.wr (o:=.row e sz xs ex 0) (x:=.cells ns e z) rfl (.row rfl hz h0 hn hex hel)
 refine⟨_,A.trans B,?_⟩
 have:=VR.sl (E:=E.put h.length 0 (w.heap.size,ns.size)) (i:=h.length) (g:=0) (sz:=sz) (off:=0) (len:=n) (cap:=cap) (Rn.put_self ..) (by simpa using hc) hl h0
 show VR _ (.sl h.length 0 sz 0 n) _
 simpa using this
theorem zero_pr{t z} (hz:zero? c t=some z):∃ ti zv,c.info t=some ti∧ti.zero=some zv∧∀ f,PR f z zv:=by
 unfold zero? at hz
 cases hi:c.info t with
 |none=>simp [hi]at hz
 |some ti=>
  simp only[hi]at hz
  cases hzv:ti.zero with
  |none=>simp [hzv]at hz
  |some zv=>
   simp only[hzv]at hz
   cases hok:okV zv with
   |false=>simp [hok]at hz
   |true=>
    simp only[hok,cond,Option.some.injEq]at hz
    exact⟨ti,zv,rfl,hzv,fun f=>by rw[← hz];exact PR.ofV f zv hok⟩
theorem run_zeroValue(C:CtxOk c P) {t ti zv} (hi:c.info t=some ti) (hz:ti.zero=some zv):(zeroValue t).run P w=.ok zv w:=by
 simp [zeroValue,run_typeInfo C hi,hz]
theorem zeros_ok{f:Nat→Option (Array Value)} {z:PV} {zv:Value} {sz:Nat} (hp:PR f z zv) (hl:z.cells.length=sz) (h0:0<sz) (n:Nat) :
  zv.cells.size=sz∧((Array.range (n*sz)).map fun i=>zv.cells[i % zv.cells.size]!).size=n*sz ∧
   (∀ u∈((Array.range (n*sz)).map fun i=>zv.cells[i % zv.cells.size]!).toList,u.oneCell'=true) ∧
   ElemsG f (fun o=>((Array.range (n*sz)).map fun i=>zv.cells[i % zv.cells.size]!)[o]?) 0 sz (List.replicate n z):=by
 have hcr:CR' ⟨fun _ _=>none,f⟩ (z.cells.map .p) zv.cells.toList:=cells_ok (.p hp) rfl
 have hsz:zv.cells.size=sz:=by have:=hcr.1.1;simp at this;omega
 have hget:∀ j,j<sz→∃ u,zv.cells[j]! = u∧zv.cells[j]?=some u∧u.oneCell'=true:=fun j hj=>by
  have hj':j<zv.cells.size:=by omega
  refine⟨zv.cells[j],by simp [hj'],by simp [hj'],hcr.2 _ (by simp)⟩
 refine⟨hsz,by simp,?_,?_⟩
 ·intro u hu
  simp only[Array.toList_map,List.mem_map]at hu
  obtain⟨i,_,rfl⟩:=hu
  obtain⟨u,e,_,ho⟩:=hget (i % zv.cells.size) (by rw[hsz];exact Nat.mod_lt _ h0)
  rw[e];exact ho
 ·intro i x hx
  rw[List.getElem?_replicate]at hx
  split at hx
  ·rename_i hi
   simp only[Option.some.injEq]at hx;subst hx
   refine⟨hl,?_⟩
   intro j y hy
   have hj:j<sz:=by rw[← hl];exact(List.getElem?_eq_some_iff.1 hy).1
   have hm:(i+1)*sz≤n*sz:=Nat.mul_le_mul_right _ hi
   rw[Nat.succ_mul]at hm
   obtain⟨u,e,e',ho⟩:=hget j hj
   refine⟨u,?_,ho,?_⟩
   ·show((Array.range (n*sz)).map fun i=>zv.cells[i % zv.cells.size]!)[0+i*sz+j]?=_
    have hlt:0+i*sz+j<n*sz:=by omega
    simp only[Array.getElem?_map]
    rw[show(Array.range (n*sz))[0+i*sz+j]?=some (0+i*sz+j)from Array.getElem?_eq_some_iff.2 ⟨by simpa using hlt,by simp⟩]
    simp only[Option.map_some,Option.some.injEq]
    rw[hsz,show(0+i*sz+j) % sz=j by rw[Nat.zero_add,Nat.mul_add_mod',Nat.mod_eq_of_lt hj]]
    exact e
   ·exact(hcr.1.2 j (.p y) u (by simp [hy]) (by simpa using e')).p_inv
  ·cases hx
theorem fitsA_len{a sz z} (h:fitsA a sz z=true):z.cells.length=sz:=by
 unfold fitsA at h
 simp only[Bool.and_eq_true,Nat.beq_eq]at h;exact h.1
theorem clear_ok(C:CtxOk c P) (W:WR E h w) {ts ty el X v} (ht:c.under ts=some (.slice el)) (hv:VR E X v):SemV P E h w (clear? c h el X) (Builtin.clear_ #[ts] ty #[v]):=by
 unfold clear?
 split
 ·split
  ·have:=hv.p_inv;cases this
   exact .w W (v:=.tuple #[]) (by simp [Builtin.clear_,run_underlying C ht]) (.tup rfl (by simp))
  ·exact .no
 ·rename_i i g sz off n
  cases hv with
  | @sl _ _ _ _ _ b m cap ha hc hl hs0=>
  split
  ·exact .w W (v:=.tuple #[]) (by simp [Builtin.clear_,run_underlying C ht]) (.tup rfl (by simp))
  ·rename_i hn0
   have hn:n ≠ 0:=fun e=>hn0 e
   split
   ·rename_i e' sz' xs ex g' z a ho hz ha'
    cases hb:(Nat.beq g g'&&Nat.beq sz sz'&&fitsA a sz z)with
    |false=>exact .no
    |true=>
     simp only[Bool.and_eq_true,Nat.beq_eq]at hb
     obtain⟨⟨rfl,rfl⟩,hfit⟩:=hb
     simp only[cond]
     intro hno
     generalize hr:overK xs off (List.replicate n z) _ VH.no=r at hno ⊢
     have hne:r ≠ .no:=fun e=>by subst e;simp [VH.isNo]at hno
     obtain⟨hle,rfl⟩:=overK_some hr hne
     obtain⟨ti,zv,hi,hzv,hpr⟩:=zero_pr hz
     obtain⟨z1,z2,z3,z4⟩:=zeros_ok (hpr E.f) (fitsA_len hfit) hs0 n
     obtain⟨w',hrun,A⟩:=rowOver_ok (P:=P) (ns:=((Array.range (n*sz)).map fun i=>zv.cells[i % zv.cells.size]!).toList) (new:=List.replicate n z) W ho ha hle
      (by simp) z3 (by simpa only[Array.getElem?_toList]using z4)
     refine⟨.tuple #[],w',?_,E,A,.tup rfl (by simp)⟩
     have hzc:Builtin.zeroCells zv.cells n=(Array.range (n*sz)).map fun i=>zv.cells[i % zv.cells.size]!:=by
      simp only[Builtin.zeroCells,z1]
     simp [Builtin.clear_,run_underlying C ht,run_zeroValue C hi hzv,hzc,hn]
     rw[Array.toList_map]at hrun
     rw[show(Array.range (n*sz)).toList=List.range (n*sz) by simp]at hrun
     simp [hrun]
   ·exact .no
 ·exact .no
end
section
variable {c:Ctx} {P:Program} {E:Rn} {h:List Ob} {w:World}
theorem ElemsG.take{f:Nat→Option (Array Value)} {g:Nat→Option Value} {off sz} {xs:List PV} (h:ElemsG f g off sz xs) (m:Nat):ElemsG f g off sz (xs.take m):=by
 intro i x hx
 rw[List.getElem?_take]at hx
 split at hx
 ·exact h i x hx
 ·cases hx
theorem ElemsG.app{f:Nat→Option (Array Value)} {sz:Nat} {xs ys:List PV} {as bs rest:List Value} (h1:ElemsG f (fun o=>as[o]?) 0 sz xs) (hl:as.length=xs.length*sz)
  (h2:ElemsG f (fun o=>bs[o]?) 0 sz ys):ElemsG f (fun o=>(as++(bs++rest))[o]?) 0 sz (xs++ys):=by
 intro i x hx
 by_cases hi:i<xs.length
 ·rw[List.getElem?_append_left hi]at hx
  obtain⟨a,b⟩:=h1 i x hx
  refine⟨a,fun j y hy=>?_⟩
  obtain⟨v,hv,hr⟩:=b j y hy
  refine⟨v,?_,hr⟩
  show(as++(bs++rest))[0+i*sz+j]?=_
  rw[List.getElem?_append_left (List.getElem?_eq_some_iff.1 hv).1];exact hv
 ·rw[List.getElem?_append_right (by omega)]at hx
  obtain⟨a,b⟩:=h2 _ x hx
  refine⟨a,fun j y hy=>?_⟩
  obtain⟨v,hv,hr⟩:=b j y hy
  refine⟨v,?_,hr⟩
  have e1:i*sz=xs.length*sz+(i-xs.length)*sz:=by rw[← Nat.add_mul];congr 1;omega
  show(as++(bs++rest))[0+i*sz+j]?=_
  rw[List.getElem?_append_right (by omega),show 0+i*sz+j-as.length=0+(i-xs.length)*sz+j by omega,List.getElem?_append_left (List.getElem?_eq_some_iff.1 hv).1]
  exact hv
def sliceOrStr(c:Ctx) (t:TypeId):Prop:=(∃ e,c.under t=some (.slice e))∨c.under t=some .string
theorem run_append_in(C:CtxOk c P) {st xt el ty sz u n base len cap} {new:List Value} (hs:c.under st=some (.slice el)) (hx:sliceOrStr c xt) (hsz:sizeOf? c el=some sz)
  (hl:(Builtin.lenOf u).run P w=.ok n w) (hf:(Builtin.firstCells sz n u).run P w=.ok new.toArray w) (hr:len+n≤cap) :
  (Builtin.append_ #[st,xt] ty #[.slice base len cap,u]).run P w =
   ((match base with|some a=>storeCells (a.add (len*sz)) new|none=>pure ()).run P w).andThen fun _ w'=>.ok (.slice base (len+n) cap) w':=by
 rcases hx with⟨e,hx⟩|hx <;>
 ·simp [Builtin.append_,run_underlying C hs,run_underlying C hx,run_sizeOf C hsz,hl,hf,hr]
  cases base<;>simp [Result.andThen]<;>rfl
theorem room_some{e n} (hr:room c e n=true):∃ ti z zv,c.info e=some ti∧zero? c e=some z∧ti.zero=some zv∧n*ti.bytes≤140737488355328∧1≤ti.bytes∧z.cells.length=ti.size∧∀ f,PR f z zv:=by
 unfold room at hr
 split at hr
 ·rename_i i z hi hz
  simp only[Bool.and_eq_true,Nat.ble_eq,Nat.beq_eq]at hr
  obtain⟨ti,zv,h1,h2,h3⟩:=zero_pr hz
  rw[hi]at h1;cases h1
  exact⟨i,z,zv,hi,hz,h2,hr.1,hr.2.1,hr.2.2,h3⟩
 ·cases hr
theorem run_append_out(C:CtxOk c P) {st xt el ty sz u n base len cap ti zv} {old new:List Value} (hs:c.under st=some (.slice el)) (hx:sliceOrStr c xt) (hi:c.info el=some ti) (hsz:ti.size=sz) (hz:ti.zero=some zv)
  (hl:(Builtin.lenOf u).run P w=.ok n w) (ho:(Builtin.firstCells sz len (.slice base len cap)).run P w.drew=.ok old.toArray w.drew) (hf:(Builtin.firstCells sz n u).run P w.drew=.ok new.toArray w.drew) (hr:cap<len+n)
  (hb:(len+n)*ti.bytes≤140737488355328) (h1:1≤ti.bytes) :
  (Builtin.append_ #[st,xt] ty #[.slice base len cap,u]).run P w =
   .ok (.slice (some ⟨w.heap.size,0,none⟩) (len+n) (grownCap w (len+n) cap el)) (w.drew.alloc (.cells (old.toArray++(new.toArray++Builtin.zeroCells zv.cells (grownCap w (len+n) cap el-(len+n)))) el)):=by
 have hn:¬ (len+n≤cap):=by omega
 have hfit:=growslice_fits (need:=len+n) (old:=cap) (bytes:=ti.bytes) hr hb
 have h48':¬ (281474976710656<Builtin.nextslicecap (len+n) cap*ti.bytes):=by omega
 have hb0:ti.bytes ≠ 0:=by omega
 subst hsz
 rcases hx with⟨e,hx⟩|hx <;>
 ·simp [Builtin.append_,run_underlying C hs,run_underlying C hx,sizeOf,run_typeInfo C hi,zeroValue,hz,hl,hf,ho,hn,h48',hb0,Question.forced,Go.newRow,grownCap]
end
end Go.Ai

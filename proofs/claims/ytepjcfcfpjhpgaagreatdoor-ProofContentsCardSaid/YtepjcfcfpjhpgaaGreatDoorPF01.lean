/- What is proved: what a row asks, at its end; a content that is given, opened into pure values. Conditions: none. -/
import Derived.Test.YtepjcfcfpjhpgaaGreatDoorPA08
import Derived.Test.YtepjcfcfpjhpgaaGreatDoorRows
import Derived.SliceStrings
import Derived.Carry
import Derived.ChangeSame
import Derived.ChangeMaps5
import Derived.JoinedOf
import Derived.JoinedAt
import Derived.Handed
import Derived.ReadAgain
import Derived.RowKit2
import Derived.Test.YtepjcfcfpjhpgaaGreatDoorPD06
import Derived.Deep.Slices
import Derived.OpenShut
set_option linter.all false
set_option maxRecDepth 100000
namespace Go.Ai
open Go Go.RowKit Go.ChangeShapes Go.WideShapes
def frzOf(W:World):Nat→Option (Array Value):=fun b=>match W.heap[b]? with|some (.cells vs _ _)=>some vs|_=>none
def rn0(W:World):Rn:={a:=fun _ _=>none,f:=frzOf W}
theorem wr0(W:World):WR (rn0 W) [] W:=by
 refine⟨fun i g b n h=>(by cases h),fun b vs h=>?_,fun i b n hi=>(by simp at hi),fun i b n hi=>(by simp at hi),fun i j b n m hi=>(by simp at hi),fun i g hi=>(by simp at hi),fun i g _=>rfl,fun i g x hi=>(by simp at hi)⟩
 have h:frzOf W b=some vs:=h
 unfold frzOf at h
 split at h
 ·rename_i vs' e z he
  cases h
  exact⟨e,z,he⟩
 ·cases h
theorem cellF_of{W:World} {b o:Nat} {v:Value} (h:W.cell? ⟨b,o,none⟩=some v):cellF (frzOf W) b o=some v:=by
 unfold World.cell? at h
 unfold cellF frzOf
 split at h
 ·rename_i vs e z he
  simp only at he
  rw[he]
  simpa using h
 ·cases h
section
variable {H:Type} {enc:TypeId×Value→H} {P:Program}
theorem post_below{f:Func} {s:ChangeSpec} {apart fresh handsOn again:Bool} {W W':World} {args:Array Value} {v:Value} {ds gs:List (DataW H)} {before pa pv:List MemPlace}
  (hW:DataW.Whole enc P f.params.toList s.vars apart W args.toList ds gs before)
  (hres:∀ (b:Nat) (sp:Nat→Bool) (hd:Bool),DataW.TrodAll enc P W' b sp hd f.resultTypes.toList (v.resultList f.resultTypes.size) (s.fn H (ds++gs)).results [])
  (hargs:∀ sp:Nat→Bool,(∀ p∈before,sp p.block=true)→DataW.TrodAll enc P W' 0 sp true f.params.toList args.toList (s.fn H (ds++gs)).args pa)
  (hvars:∀ sp:Nat→Bool,(∀ p∈before,sp p.block=true)→DataW.TrodVars enc P W' sp s.vars (s.fn H (ds++gs)).vars pv)
  (hps:before=pa++pv) (hb:Below W.heap.size W W')
  (hok:∀ (j:Nat) (t:TypeId) (r:Value),f.resultTypes[j]?=some t→(v.resultList f.resultTypes.size)[j]?=some r→Value.okWide P W' .any 0 t r) :
  s.post enc P f apart fresh handsOn again W args v W':=by
 have old:∀ p∈before,p.block<W.heap.size:=fun p hp=>hW.lt p hp
 have sp0:∀ p∈before,(fun b=>decide (b<W.heap.size)) p.block=true:=fun p hp=>decide_eq_true (old p hp)
 refine⟨ds,gs,before,[],pa,pv,hW,hres _ _ _,hargs _ sp0,hvars _ sp0,hb.frame _,fun _=>?_⟩
 have hW2:=hW
 obtain⟨_,_,_,_,_,hz,hn⟩:=hW2
 refine⟨hok,_,_,([]++pa)++pv,⟨[]++pa,pv,trodAll_append (hargs _ fun _ _=>rfl) (hres _ _ _),hvars _ fun _ _=>rfl,rfl,fun b off hp=>?_,fun ha=>?_⟩,fun p hp _=>?_⟩
 ·have hp':MemPlace.cell b off∈before:=by rw[hps];simpa using hp
  exact(hb.frozen (p:=⟨b,off,none⟩) (old _ hp')).trans (hz b off hp')
 ·have:=hn ha
  rw[hps]at this
  simpa using this
 ·rw[hps];simpa using hp
end
end Go.Ai
namespace Go.Ai
open Go Go.RowKit Go.Deep Go.ChangeShapes Go.WideShapes
section
variable {H:Type} {enc:TypeId×Value→H} {P:Program} {W:World} {fuel:Nat} {t e:TypeId} {cs:List Value} {x:DataW H×List MemPlace}
def Cells(W:World) (ps:List PV) (cs:List Value):Prop:=L2 (PR (frzOf W)) ps cs∧∀ c∈cs,c.oneCell'=true
theorem L2.get{α β:Type} {R:α→β→Prop}:∀ {l:List α} {m:List β},L2 R l m→∀ (i:Nat) (a:α),l[i]?=some a→∃ b,m[i]?=some b∧R a b
 |_,_,.nil,i,a,h=>by simp at h
 |_,_,.cons h H,0,a,q=>by cases q;exact⟨_,rfl,h⟩
 |_,_,.cons h H,i+1,a,q=>by simpa using H.get i a (by simpa using q)
theorem open_sl(sz:Nat) (Q:PV→Prop) (ht:P.underlying t=some (.slice e)) (hs:P.cellsOf e=sz) (h0:0<sz)
  (he:∀ n cs' (y:DataW H×List MemPlace),DataW.trod enc P W 0 (fun _=>true) true n e cs'=some y→∃ p,Q p∧p.cells.length=sz∧Cells W p.cells cs')
  (h:DataW.trod enc P W 0 (fun _=>true) true fuel t cs=some x) :
  cs=[.slice none 0 0]∨∃ (a:Addr) (len cap:Nat) (xs:List PV),cs=[.slice (some a) len cap]∧xs.length=len∧len≤cap∧cap≤maxLen∧(∀ p∈xs,Q p)∧(a.spot=none→PR (frzOf W) (.vec sz xs) (.slice (some a) len cap))∧(a.spot ≠ none→len=0∧cap=0):=by
 rcases open_slice ht h with⟨h1,_⟩|⟨a,len,cap,m,n,D,Pl,rfl,hb,hl,hm,hmm,_,hx⟩
 ·exact .inl h1
 right
 simp only[if_true]at hmm
 subst hmm
 rw[hs]at hx
 obtain⟨V,hV⟩:=choose_lt (α:=PV×List Value) (p:=fun i v=>W.cells? 0 (a.add (i*sz)) sz=some v.2∧Q v.1∧v.1.cells.length=sz∧Cells W v.1.cells v.2) (fun i hi=>by
  obtain⟨cs',h1,h2⟩:=hx i hi
  obtain⟨p,q1,q2,q3⟩:=he _ _ _ h2
  exact⟨(p,cs'),h1,q1,q2,q3⟩)
 refine⟨a,len,m,(List.range len).map fun i=>(V i).1,rfl,by simp,hl,hm,fun p hp=>?_,fun hsp=>?_,fun hsp=>?_⟩
 ·obtain⟨i,hi,rfl⟩:=List.mem_map.1 hp
  exact(hV i (by have:=List.mem_range.1 hi;omega)).2.1
 ·obtain⟨b,off,spot⟩:=a
  simp only at hsp
  subst hsp
  have hlen:((List.range len).map fun i=>(V i).1).length=len:=by simp
  have:=PR.of_elems (f:=frzOf W) (sz:=sz) (xs:=(List.range len).map fun i=>(V i).1) (b:=b) (off:=off) (cap:=m) (by rw[hlen];exact hl) (fun i p hp=>by
   rw[List.getElem?_map]at hp
   have hi:i<len:=by
    rcases Nat.lt_or_ge i len with q|q
    ·exact q
    ·rw[List.getElem?_eq_none (by simpa using q)]at hp;cases hp
   rw[List.getElem?_range hi]at hp
   cases hp
   obtain⟨q1,q2,q3,q4,q5⟩:=hV i (by omega)
   refine⟨q3,fun j y hy=>?_⟩
   obtain⟨v,hv,hpr⟩:=q4.get j y hy
   obtain⟨_,hcl,hcell⟩:=World.cells?_some q1
   have hj:j<sz:=by
    have h1:j<(V i).1.cells.length:=(List.getElem?_eq_some_iff.1 hy).1
    omega
   refine⟨v,cellF_of ?_,q5 v (List.mem_of_getElem? hv),hpr⟩
   rw[← hv,← hcell j hj,add_add,add_plain,Nat.add_assoc])
  rwa[hlen]at this
 ·rcases Nat.eq_zero_or_pos m with q|q
  ·exact⟨by omega,q⟩
  ·exfalso
   obtain⟨q1,_⟩:=hV 0 q
   obtain⟨_,hcl,hcell⟩:=World.cells?_some q1
   have h1:=hcell 0 h0
   rw[List.getElem?_eq_getElem (by omega)]at h1
   rw[Nat.zero_mul]at h1
   unfold Addr.add World.cell? at h1
   simp only[if_true]at h1
   cases hsp':a.spot with
   |none=>exact hsp hsp'
   |some s=>
    rw[hsp']at h1
    simp at h1
    split at h1<;>cases h1
def fldAt(P:Program) (t:TypeId) (i:Nat):Option (TypeId×Nat):=match P.underlying t with
 |some (.struct fs)=>fs[i]?.map fun f=>(f.type,f.offset)
 |_=>none
theorem trod_fld{i off:Nat} {ty:TypeId} (hf:fldAt P t i=some (ty,off)) (h:DataW.trod enc P W 0 (fun _=>true) true fuel t cs=some x) :
  cs.length=P.cellsOf t∧∃ n y,DataW.trod enc P W 0 (fun _=>true) true n ty ((cs.drop off).take (P.cellsOf ty))=some y:=by
 unfold fldAt at hf
 cases hu:P.underlying t with
 |none=>rw[hu]at hf;cases hf
 |some tt=>
  rw[hu]at hf
  cases tt with
  |struct fs=>
   simp only at hf
   obtain⟨xs,n,rfl,_,hl,hlen,hF⟩:=DataW.trod_struct hu h
   cases hq:fs[i]? with
   |none=>rw[hq]at hf;cases hf
   |some f=>
    rw[hq]at hf
    simp only[Option.map_some,Option.some.injEq,Prod.mk.injEq]at hf
    obtain⟨rfl,rfl⟩:=hf
    have hi:i<fs.size:=(Array.getElem?_eq_some_iff.1 hq).1
    have:=hF i f hq
    rw[List.getElem?_eq_getElem (by omega)]at this
    exact⟨hl,n,_,this⟩
  |_=>cases hf
theorem take_drop1{off:Nat} {l:List Value} {v:Value} (h:(l.drop off).take 1=[v]):l[off]?=some v:=by
 have h1:=congrArg (fun m:List Value=>m[0]?) h
 simp only[List.getElem?_take,List.getElem?_drop,List.getElem?_cons_zero]at h1
 simpa using h1
theorem fld_int{i off:Nat} {ty:TypeId} {k:IntKind} (hf:fldAt P t i=some (ty,off)) (hk:P.underlying ty=some (.int k)) (hc:P.cellsOf ty=1) (h:DataW.trod enc P W 0 (fun _=>true) true fuel t cs=some x):∃ n,cs[off]?=some (.int k n):=by
 obtain⟨_,n,y,hy⟩:=trod_fld hf h
 rw[hc]at hy
 obtain⟨z,hz,_⟩:=DataW.trod_int hk hy
 exact⟨z,take_drop1 hz⟩
theorem fld_bool{i off:Nat} {ty:TypeId} (hf:fldAt P t i=some (ty,off)) (hk:P.underlying ty=some .bool) (hc:P.cellsOf ty=1) (h:DataW.trod enc P W 0 (fun _=>true) true fuel t cs=some x):∃ b,cs[off]?=some (.bool b):=by
 obtain⟨_,n,y,hy⟩:=trod_fld hf h
 rw[hc]at hy
 obtain⟨z,hz,_⟩:=DataW.trod_bool hk hy
 exact⟨z,take_drop1 hz⟩
theorem fld_str{i off:Nat} {ty:TypeId} (hf:fldAt P t i=some (ty,off)) (hk:P.underlying ty=some .string) (hc:P.cellsOf ty=1) (h:DataW.trod enc P W 0 (fun _=>true) true fuel t cs=some x):∃ s:ByteArray,cs[off]?=some (.string s)∧s.size≤maxLen:=by
 obtain⟨_,n,y,hy⟩:=trod_fld hf h
 rw[hc]at hy
 obtain⟨z,hz,_,hl⟩:=DataW.trod_string hk hy
 exact⟨z,take_drop1 hz,hl⟩
theorem cells_nil:Cells W [] []:=⟨.nil,fun c hc=>by cases hc⟩
theorem Cells.cons{p ps v vs} (h1:PR (frzOf W) p v) (h2:v.oneCell'=true) (H:Cells W ps vs):Cells W (p::ps) (v::vs):=⟨.cons h1 H.1,fun c hc=>by
 rcases List.mem_cons.1 hc with q|q
 ·rw[q];exact h2
 ·exact H.2 c q⟩
end
end Go.Ai
namespace Go.Proofs
open Go Go.Ai Go.RowKit Go.Deep Go.ChangeShapes Go.WideShapes
theorem map_of{α:Type} {V:α→PV} {Q:PV→Prop} {R:α→Prop} (h:∀ p,Q p→∃ a,p=V a∧R a):∀ (xs:List PV),(∀ p∈xs,Q p)→∃ l:List α,xs=l.map V∧∀ a∈l,R a
 | [],_=>⟨[],rfl,fun a ha=>(by cases ha)⟩
 |p::xs,H=>by
  obtain⟨a,rfl,hr⟩:=h p (H p List.mem_cons_self)
  obtain⟨l,rfl,hl⟩:=map_of h xs fun q hq=>H q (List.mem_cons_of_mem _ hq)
  refine⟨a::l,rfl,fun b hb=>?_⟩
  rcases List.mem_cons.1 hb with q|q
  ·rw[q];exact hr
  ·exact hl b q
section
variable {H:Type} {enc:TypeId×Value→H} {W:World} {fuel:Nat} {cs:List Value} {x:DataW H×List MemPlace}
theorem uP3:Tryz.prog.underlying 3=some (.int .i64):=by kernel_rfl
theorem uP4:Tryz.prog.underlying 4=some .bool:=by kernel_rfl
theorem uP5:Tryz.prog.underlying 5=some (.int .u8):=by kernel_rfl
theorem uP9:Tryz.prog.underlying 9=some .string:=by kernel_rfl
theorem uP27:Tryz.prog.underlying 27=some (.array 16 5):=by kernel_rfl
theorem cP3:Tryz.prog.cellsOf 3=1:=by kernel_rfl
theorem cP4:Tryz.prog.cellsOf 4=1:=by kernel_rfl
theorem cP5:Tryz.prog.cellsOf 5=1:=by kernel_rfl
theorem cP9:Tryz.prog.cellsOf 9=1:=by kernel_rfl
theorem cP27:Tryz.prog.cellsOf 27=16:=by kernel_rfl
theorem list2{α:Type} (l:List α) (h:l.length=2):∃ a0 a1,l=[a0,a1]:=by
 match l,h with
 | [a0,a1],_=>exact⟨a0,a1,rfl⟩
theorem open_slP{t e:TypeId} {v:Value} (sz:Nat) (Q:PV→Prop) (ht:Tryz.prog.underlying t=some (.slice e)) (hs:Tryz.prog.cellsOf e=sz) (h0:0<sz) (hv:∀ a len cap,v=.slice (some a) len cap→a.spot=none)
  (he:∀ n cs' (y:DataW H×List MemPlace),DataW.trod enc Tryz.prog W 0 (fun _=>true) true n e cs'=some y→∃ p,Q p∧p.cells.length=sz∧Cells W p.cells cs')
  (h:DataW.trod enc Tryz.prog W 0 (fun _=>true) true fuel t [v]=some x):∃ p xs,PR (frzOf W) p v∧v.oneCell'=true∧SlP sz p xs∧(∀ p∈xs,Q p):=by
 rcases open_sl sz Q ht hs h0 he h with h1|⟨a,len,cap,xs,h1,hlen,hlc,hcm,hq,hp,hn⟩
 ·cases h1
  exact⟨.nils,[],.nils,rfl,.nil,fun p hp=>(by cases hp)⟩
 ·cases h1
  exact⟨.vec sz xs,xs,hp (hv _ _ _ rfl),rfl,.vec _,hq⟩
theorem uP42:Tryz.prog.underlying 42=some (.slice 46):=by kernel_rfl
theorem cP42:Tryz.prog.cellsOf 42=1:=by kernel_rfl
theorem cP44:Tryz.prog.cellsOf 44=2:=by kernel_rfl
theorem cP46:Tryz.prog.cellsOf 46=19:=by kernel_rfl
theorem fld_arrW{P:Program} {t:TypeId} {i off m:Nat} {ty ty':TypeId} {k:IntKind} (hf:fldAt P t i=some (ty,off)) (ha:P.underlying ty=some (.array m ty')) (hk:P.underlying ty'=some (.int k)) (hc:P.cellsOf ty=m) (hc':P.cellsOf ty'=1) (h:DataW.trod enc P W 0 (fun _=>true) true fuel t cs=some x):∀ j,j<m→∃ n,cs[off+j]?=some (.int k n)∧(Lit.int k n).wf=true:=by
 obtain⟨_,n,y,hy⟩:=trod_fld hf h
 rw[hc]at hy
 obtain⟨xs,m',rfl,_,hl,hlen,hF⟩:=DataW.trod_array ha hy
 intro j hj
 have:=hF j hj
 rw[List.getElem?_eq_getElem (by omega),hc',Nat.mul_one]at this
 obtain⟨z,hz,_,hw⟩:=DataW.trod_int hk this
 have hz:=take_drop1 hz
 rw[List.getElem?_take,List.getElem?_drop]at hz
 simp only[hj,if_true]at hz
 exact⟨z,hz,hw⟩
theorem u8_wf{n:Int} (h:(Lit.int .u8 n).wf=true):∃ b:UInt8,n=(b.toNat:Int):=by
 have h1:0≤n∧n≤255:=by
  simp [Lit.wf]at h
  exact h
 refine⟨UInt8.ofNat n.toNat,?_⟩
 rw[UInt8.toNat_ofNat']
 omega
theorem list19{α:Type} (l:List α) (h:l.length=19):∃ a0 a1 a2 s,l=a0::a1::a2::s∧s.length=16:=by
 match l,h with
 |a0::a1::a2::s,h=>exact⟨a0,a1,a2,s,rfl,by simpa using h⟩
theorem cells_bytes:∀ (vs:List Value),(∀ j,j<vs.length→∃ b:UInt8,vs[j]?=some (.int .u8 (b.toNat:Int)))→∃ u:List UInt8,u.length=vs.length∧Cells W (bytesPV u) vs
 | [],_=>⟨[],rfl,cells_nil⟩
 |v::vs,h=>by
  obtain⟨b,hb⟩:=h 0 (by simp)
  obtain⟨u,hu,hc⟩:=cells_bytes vs fun j hj=>by
   obtain⟨b,hb⟩:=h (j+1) (by simpa using hj)
   exact⟨b,by simpa using hb⟩
  have hv:v=.int .u8 (b.toNat:Int):=by simpa using hb
  subst hv
  exact⟨b::u,by simp [hu],.cons (.int _ _) rfl hc⟩
def ItmT(p:PV):Prop:=∃ x:Itm,p=x.V∧x.ok
theorem open_itm(h:DataW.trod enc Tryz.prog W 0 (fun _=>true) true fuel 46 cs=some x):∃ p,ItmT p∧p.cells.length=19∧Cells W p.cells cs:=by
 obtain⟨k,hk,_⟩:=fld_str (i:=0) (off:=0) (ty:=9) (by kernel_rfl) uP9 cP9 h
 obtain⟨b,h1⟩:=fld_bool (i:=1) (off:=1) (ty:=4) (by kernel_rfl) uP4 cP4 h
 obtain⟨n,h2⟩:=fld_int (i:=2) (off:=2) (ty:=3) (by kernel_rfl) uP3 cP3 h
 have hA:=fld_arrW (i:=3) (off:=3) (ty:=27) (ty':=5) (by kernel_rfl) uP27 uP5 cP27 cP5 h
 have hl:=(trod_fld (i:=0) (off:=0) (ty:=9) (by kernel_rfl) h).1
 rw[cP46]at hl
 obtain⟨a0,a1,a2,s,rfl,hs⟩:=list19 cs hl
 obtain⟨u,hu,hc⟩:=cells_bytes (W:=W) s fun j hj=>by
  obtain⟨n,hn,hw⟩:=hA j (by omega)
  obtain⟨b,rfl⟩:=u8_wf hw
  exact⟨b,by rw[← hn,Nat.add_comm];rfl⟩
 cases hk;cases h1;cases h2
 refine⟨Itm.V ⟨k.data.toList,b,n,u⟩,⟨_,rfl,hu.trans hs⟩,Itm.len (x:=⟨k.data.toList,b,n,u⟩) (hu.trans hs),?_⟩
 exact .cons (.str _ _ rfl) rfl (.cons (.bool _) rfl (.cons (.int _ _) rfl hc))
theorem open_con(hv:∀ v∈cs,∀ a len cap,v=.slice (some a) len cap→a.spot=none) (h:DataW.trod enc Tryz.prog W 0 (fun _=>true) true fuel 44 cs=some x):∃ (l:Int) (q:PV) (xs:List Itm),SlP 19 q (xs.map Itm.V)∧(∀ x∈xs,x.ok)∧Cells W (PV.agg [.int .i64 l,q]).cells cs:=by
 obtain⟨n0,h0⟩:=fld_int (i:=0) (off:=0) (ty:=3) (by kernel_rfl) uP3 cP3 h
 obtain⟨hl,m1,y1,h1⟩:=trod_fld (i:=1) (off:=1) (ty:=42) (by kernel_rfl) h
 rw[cP44]at hl
 rw[cP42]at h1
 obtain⟨a0,a1,rfl⟩:=list2 cs hl
 obtain⟨p,xs,hp,ho,hS,hq⟩:=open_slP (v:=a1) 19 ItmT uP42 cP46 (by decide) (hv a1 (by simp)) (fun _ _ _=>open_itm) h1
 obtain⟨l,rfl,hok⟩:=map_of (V:=Itm.V) (Q:=ItmT) (R:=Itm.ok) (fun p h=>h) xs hq
 cases h0
 exact⟨n0,p,l,hS,hok,.cons (.int _ _) rfl (.cons hp ho cells_nil)⟩
end
variable {W:World}
theorem pr_agg{c:List PV} {vs:Array Value} (hc:Cells W (PV.agg c).cells vs.toList):PR (frzOf W) (.agg c) (.agg vs):=by
 obtain⟨h1,h2⟩:=hc
 have h1:L2 (PR (frzOf W)) c vs.toList:=h1
 have hlen:=h1.length
 refine .agg (cs:=c) (by simpa using hlen) (fun i v hv=>h2 v (by
  have:vs.toList[i]?=some v:=by rw[Array.getElem?_toList];exact hv
  exact List.mem_of_getElem? this)) (fun i x v hx hv=>?_)
 obtain⟨b,hb,hr⟩:=h1.get i x hx
 have:vs.toList[i]?=some v:=by rw[Array.getElem?_toList];exact hv
 rw[hb]at this
 cases this
 exact hr
end Go.Proofs

/- What is proved: a space, and a cursor, that is an argument, opened as the interpreter's values. Conditions: none. -/
import Derived.Test.YtepjcfcfpjhpgaaGreatDoorSA08
import Derived.Test.YtepjcfcfpjhpgaaGreatDoorRows
import Derived.SliceStrings
import Derived.Carry
import Derived.ChangeSame
import Derived.ChangeMaps5
import Derived.JoinedOf
import Derived.JoinedAt
import Derived.Handed
import Derived.ReadAgain
import Derived.RowKit2
import Derived.Test.YtepjcfcfpjhpgaaGreatDoorSC12
import Derived.Deep.Slices
import Derived.OpenShut
set_option linter.all false
set_option maxRecDepth 100000
namespace Go.Ai
open Go Go.RowKit Go.ChangeShapes Go.WideShapes
def frzOf(W:World):Nat→Option (Array Value):=fun b=>match W.heap[b]? with|some (.cells vs _ _)=>some vs|_=>none
def rn0(W:World):Rn:={a:=fun _ _=>none,f:=frzOf W}
theorem wr0(W:World):WR (rn0 W) [] W:=by
 refine⟨fun i g b n h=>(by cases h),fun b vs h=>?_,fun i b n hi=>(by simp at hi),fun i b n hi=>(by simp at hi),fun i j b n m hi=>(by simp at hi),fun i g hi=>(by simp at hi),fun i g _=>rfl,fun i g x hi=>(by simp at hi)⟩
 have h:frzOf W b=some vs:=h
 unfold frzOf at h
 split at h
 ·rename_i vs' e z he
  cases h
  exact⟨e,z,he⟩
 ·cases h
theorem cellF_of{W:World} {b o:Nat} {v:Value} (h:W.cell? ⟨b,o,none⟩=some v):cellF (frzOf W) b o=some v:=by
 unfold World.cell? at h
 unfold cellF frzOf
 split at h
 ·rename_i vs e z he
  simp only at he
  rw[he]
  simpa using h
 ·cases h
section
variable {H:Type} {enc:TypeId×Value→H} {P:Program}
theorem post_below{f:Func} {s:ChangeSpec} {apart fresh handsOn again:Bool} {W W':World} {args:Array Value} {v:Value} {ds gs:List (DataW H)} {before pa pv:List MemPlace}
  (hW:DataW.Whole enc P f.params.toList s.vars apart W args.toList ds gs before)
  (hres:∀ (b:Nat) (sp:Nat→Bool) (hd:Bool),DataW.TrodAll enc P W' b sp hd f.resultTypes.toList (v.resultList f.resultTypes.size) (s.fn H (ds++gs)).results [])
  (hargs:∀ sp:Nat→Bool,(∀ p∈before,sp p.block=true)→DataW.TrodAll enc P W' 0 sp true f.params.toList args.toList (s.fn H (ds++gs)).args pa)
  (hvars:∀ sp:Nat→Bool,(∀ p∈before,sp p.block=true)→DataW.TrodVars enc P W' sp s.vars (s.fn H (ds++gs)).vars pv)
  (hps:before=pa++pv) (hb:Below W.heap.size W W')
  (hok:∀ (j:Nat) (t:TypeId) (r:Value),f.resultTypes[j]?=some t→(v.resultList f.resultTypes.size)[j]?=some r→Value.okWide P W' .any 0 t r) :
  s.post enc P f apart fresh handsOn again W args v W':=by
 have old:∀ p∈before,p.block<W.heap.size:=fun p hp=>hW.lt p hp
 have sp0:∀ p∈before,(fun b=>decide (b<W.heap.size)) p.block=true:=fun p hp=>decide_eq_true (old p hp)
 refine⟨ds,gs,before,[],pa,pv,hW,hres _ _ _,hargs _ sp0,hvars _ sp0,hb.frame _,fun _=>?_⟩
 have hW2:=hW
 obtain⟨_,_,_,_,_,hz,hn⟩:=hW2
 refine⟨hok,_,_,([]++pa)++pv,⟨[]++pa,pv,trodAll_append (hargs _ fun _ _=>rfl) (hres _ _ _),hvars _ fun _ _=>rfl,rfl,fun b off hp=>?_,fun ha=>?_⟩,fun p hp _=>?_⟩
 ·have hp':MemPlace.cell b off∈before:=by rw[hps];simpa using hp
  exact(hb.frozen (p:=⟨b,off,none⟩) (old _ hp')).trans (hz b off hp')
 ·have:=hn ha
  rw[hps]at this
  simpa using this
 ·rw[hps];simpa using hp
end
end Go.Ai
namespace Go.Ai
open Go Go.RowKit Go.Deep Go.ChangeShapes Go.WideShapes
section
variable {H:Type} {enc:TypeId×Value→H} {P:Program} {W:World} {fuel:Nat} {t e:TypeId} {cs:List Value} {x:DataW H×List MemPlace}
def Cells(W:World) (ps:List PV) (cs:List Value):Prop:=L2 (PR (frzOf W)) ps cs∧∀ c∈cs,c.oneCell'=true
theorem L2.get{α β:Type} {R:α→β→Prop}:∀ {l:List α} {m:List β},L2 R l m→∀ (i:Nat) (a:α),l[i]?=some a→∃ b,m[i]?=some b∧R a b
 |_,_,.nil,i,a,h=>by simp at h
 |_,_,.cons h H,0,a,q=>by cases q;exact⟨_,rfl,h⟩
 |_,_,.cons h H,i+1,a,q=>by simpa using H.get i a (by simpa using q)
theorem open_sl(sz:Nat) (Q:PV→Prop) (ht:P.underlying t=some (.slice e)) (hs:P.cellsOf e=sz) (h0:0<sz)
  (he:∀ n cs' (y:DataW H×List MemPlace),DataW.trod enc P W 0 (fun _=>true) true n e cs'=some y→∃ p,Q p∧p.cells.length=sz∧Cells W p.cells cs')
  (h:DataW.trod enc P W 0 (fun _=>true) true fuel t cs=some x) :
  cs=[.slice none 0 0]∨∃ (a:Addr) (len cap:Nat) (xs:List PV),cs=[.slice (some a) len cap]∧xs.length=len∧len≤cap∧cap≤maxLen∧(∀ p∈xs,Q p)∧(a.spot=none→PR (frzOf W) (.vec sz xs) (.slice (some a) len cap))∧(a.spot ≠ none→len=0∧cap=0):=by
 rcases open_slice ht h with⟨h1,_⟩|⟨a,len,cap,m,n,D,Pl,rfl,hb,hl,hm,hmm,_,hx⟩
 ·exact .inl h1
 right
 simp only[if_true]at hmm
 subst hmm
 rw[hs]at hx
 obtain⟨V,hV⟩:=choose_lt (α:=PV×List Value) (p:=fun i v=>W.cells? 0 (a.add (i*sz)) sz=some v.2∧Q v.1∧v.1.cells.length=sz∧Cells W v.1.cells v.2) (fun i hi=>by
  obtain⟨cs',h1,h2⟩:=hx i hi
  obtain⟨p,q1,q2,q3⟩:=he _ _ _ h2
  exact⟨(p,cs'),h1,q1,q2,q3⟩)
 refine⟨a,len,m,(List.range len).map fun i=>(V i).1,rfl,by simp,hl,hm,fun p hp=>?_,fun hsp=>?_,fun hsp=>?_⟩
 ·obtain⟨i,hi,rfl⟩:=List.mem_map.1 hp
  exact(hV i (by have:=List.mem_range.1 hi;omega)).2.1
 ·obtain⟨b,off,spot⟩:=a
  simp only at hsp
  subst hsp
  have hlen:((List.range len).map fun i=>(V i).1).length=len:=by simp
  have:=PR.of_elems (f:=frzOf W) (sz:=sz) (xs:=(List.range len).map fun i=>(V i).1) (b:=b) (off:=off) (cap:=m) (by rw[hlen];exact hl) (fun i p hp=>by
   rw[List.getElem?_map]at hp
   have hi:i<len:=by
    rcases Nat.lt_or_ge i len with q|q
    ·exact q
    ·rw[List.getElem?_eq_none (by simpa using q)]at hp;cases hp
   rw[List.getElem?_range hi]at hp
   cases hp
   obtain⟨q1,q2,q3,q4,q5⟩:=hV i (by omega)
   refine⟨q3,fun j y hy=>?_⟩
   obtain⟨v,hv,hpr⟩:=q4.get j y hy
   obtain⟨_,hcl,hcell⟩:=World.cells?_some q1
   have hj:j<sz:=by
    have h1:j<(V i).1.cells.length:=(List.getElem?_eq_some_iff.1 hy).1
    omega
   refine⟨v,cellF_of ?_,q5 v (List.mem_of_getElem? hv),hpr⟩
   rw[← hv,← hcell j hj,add_add,add_plain,Nat.add_assoc])
  rwa[hlen]at this
 ·rcases Nat.eq_zero_or_pos m with q|q
  ·exact⟨by omega,q⟩
  ·exfalso
   obtain⟨q1,_⟩:=hV 0 q
   obtain⟨_,hcl,hcell⟩:=World.cells?_some q1
   have h1:=hcell 0 h0
   rw[List.getElem?_eq_getElem (by omega)]at h1
   rw[Nat.zero_mul]at h1
   unfold Addr.add World.cell? at h1
   simp only[if_true]at h1
   cases hsp':a.spot with
   |none=>exact hsp hsp'
   |some s=>
    rw[hsp']at h1
    simp at h1
    split at h1<;>cases h1
def fldAt(P:Program) (t:TypeId) (i:Nat):Option (TypeId×Nat):=match P.underlying t with
 |some (.struct fs)=>fs[i]?.map fun f=>(f.type,f.offset)
 |_=>none
theorem trod_fld{i off:Nat} {ty:TypeId} (hf:fldAt P t i=some (ty,off)) (h:DataW.trod enc P W 0 (fun _=>true) true fuel t cs=some x) :
  cs.length=P.cellsOf t∧∃ n y,DataW.trod enc P W 0 (fun _=>true) true n ty ((cs.drop off).take (P.cellsOf ty))=some y:=by
 unfold fldAt at hf
 cases hu:P.underlying t with
 |none=>rw[hu]at hf;cases hf
 |some tt=>
  rw[hu]at hf
  cases tt with
  |struct fs=>
   simp only at hf
   obtain⟨xs,n,rfl,_,hl,hlen,hF⟩:=DataW.trod_struct hu h
   cases hq:fs[i]? with
   |none=>rw[hq]at hf;cases hf
   |some f=>
    rw[hq]at hf
    simp only[Option.map_some,Option.some.injEq,Prod.mk.injEq]at hf
    obtain⟨rfl,rfl⟩:=hf
    have hi:i<fs.size:=(Array.getElem?_eq_some_iff.1 hq).1
    have:=hF i f hq
    rw[List.getElem?_eq_getElem (by omega)]at this
    exact⟨hl,n,_,this⟩
  |_=>cases hf
theorem take_drop1{off:Nat} {l:List Value} {v:Value} (h:(l.drop off).take 1=[v]):l[off]?=some v:=by
 have h1:=congrArg (fun m:List Value=>m[0]?) h
 simp only[List.getElem?_take,List.getElem?_drop,List.getElem?_cons_zero]at h1
 simpa using h1
theorem fld_int{i off:Nat} {ty:TypeId} {k:IntKind} (hf:fldAt P t i=some (ty,off)) (hk:P.underlying ty=some (.int k)) (hc:P.cellsOf ty=1) (h:DataW.trod enc P W 0 (fun _=>true) true fuel t cs=some x):∃ n,cs[off]?=some (.int k n):=by
 obtain⟨_,n,y,hy⟩:=trod_fld hf h
 rw[hc]at hy
 obtain⟨z,hz,_⟩:=DataW.trod_int hk hy
 exact⟨z,take_drop1 hz⟩
theorem fld_bool{i off:Nat} {ty:TypeId} (hf:fldAt P t i=some (ty,off)) (hk:P.underlying ty=some .bool) (hc:P.cellsOf ty=1) (h:DataW.trod enc P W 0 (fun _=>true) true fuel t cs=some x):∃ b,cs[off]?=some (.bool b):=by
 obtain⟨_,n,y,hy⟩:=trod_fld hf h
 rw[hc]at hy
 obtain⟨z,hz,_⟩:=DataW.trod_bool hk hy
 exact⟨z,take_drop1 hz⟩
theorem fld_str{i off:Nat} {ty:TypeId} (hf:fldAt P t i=some (ty,off)) (hk:P.underlying ty=some .string) (hc:P.cellsOf ty=1) (h:DataW.trod enc P W 0 (fun _=>true) true fuel t cs=some x):∃ s:ByteArray,cs[off]?=some (.string s)∧s.size≤maxLen:=by
 obtain⟨_,n,y,hy⟩:=trod_fld hf h
 rw[hc]at hy
 obtain⟨z,hz,_,hl⟩:=DataW.trod_string hk hy
 exact⟨z,take_drop1 hz,hl⟩
theorem fld_arr{i off m:Nat} {ty ty':TypeId} {k:IntKind} (hf:fldAt P t i=some (ty,off)) (ha:P.underlying ty=some (.array m ty')) (hk:P.underlying ty'=some (.int k)) (hc:P.cellsOf ty=m) (hc':P.cellsOf ty'=1) (h:DataW.trod enc P W 0 (fun _=>true) true fuel t cs=some x):∀ j,j<m→∃ n,cs[off+j]?=some (.int k n):=by
 obtain⟨_,n,y,hy⟩:=trod_fld hf h
 rw[hc]at hy
 obtain⟨xs,m',rfl,_,hl,hlen,hF⟩:=DataW.trod_array ha hy
 intro j hj
 have:=hF j hj
 rw[List.getElem?_eq_getElem (by omega),hc',Nat.mul_one]at this
 obtain⟨z,hz,_⟩:=DataW.trod_int hk this
 have hz:=take_drop1 hz
 rw[List.getElem?_take,List.getElem?_drop]at hz
 simp only[hj,if_true]at hz
 exact⟨z,hz⟩
theorem cells_nil:Cells W [] []:=⟨.nil,fun c hc=>by cases hc⟩
theorem Cells.cons{p ps v vs} (h1:PR (frzOf W) p v) (h2:v.oneCell'=true) (H:Cells W ps vs):Cells W (p::ps) (v::vs):=⟨.cons h1 H.1,fun c hc=>by
 rcases List.mem_cons.1 hc with q|q
 ·rw[q];exact h2
 ·exact H.2 c q⟩
end
end Go.Ai
namespace Go.Proofs
open Go Go.Ai Go.RowKit Go.Deep Go.ChangeShapes Go.WideShapes
section
variable {H:Type} {enc:TypeId×Value→H} {W:World} {fuel:Nat} {cs:List Value} {x:DataW H×List MemPlace}
theorem uP3:Tryz.prog.underlying 3=some (.int .i64):=by kernel_rfl
theorem uP4:Tryz.prog.underlying 4=some .bool:=by kernel_rfl
theorem uP5:Tryz.prog.underlying 5=some (.int .u8):=by kernel_rfl
theorem uP9:Tryz.prog.underlying 9=some .string:=by kernel_rfl
theorem uP27:Tryz.prog.underlying 27=some (.array 16 5):=by kernel_rfl
theorem uP23:Tryz.prog.underlying 23=some (.slice 3):=by kernel_rfl
theorem uP22:Tryz.prog.underlying 22=some (.slice 62):=by kernel_rfl
theorem uP59:Tryz.prog.underlying 59=some (.slice 64):=by kernel_rfl
theorem uP60:Tryz.prog.underlying 60=some (.slice 375):=by kernel_rfl
theorem cP3:Tryz.prog.cellsOf 3=1:=by kernel_rfl
theorem cP4:Tryz.prog.cellsOf 4=1:=by kernel_rfl
theorem cP5:Tryz.prog.cellsOf 5=1:=by kernel_rfl
theorem cP9:Tryz.prog.cellsOf 9=1:=by kernel_rfl
theorem cP27:Tryz.prog.cellsOf 27=16:=by kernel_rfl
theorem cP64:Tryz.prog.cellsOf 64=22:=by kernel_rfl
theorem cP375:Tryz.prog.cellsOf 375=2:=by kernel_rfl
theorem cP62:Tryz.prog.cellsOf 62=10:=by kernel_rfl
theorem cP25:Tryz.prog.cellsOf 25=6:=by kernel_rfl
theorem cP22:Tryz.prog.cellsOf 22=1:=by kernel_rfl
theorem cP23:Tryz.prog.cellsOf 23=1:=by kernel_rfl
theorem cP59:Tryz.prog.cellsOf 59=1:=by kernel_rfl
theorem cP60:Tryz.prog.cellsOf 60=1:=by kernel_rfl
theorem list22{α:Type} (l:List α) (h:l.length=22):∃ a0 a1 a2 a3 a4 a5 a6 a7 a8 a9 b0 b1 b2 b3 b4 b5 b6 b7 b8 b9 c0 c1,l=[a0,a1,a2,a3,a4,a5,a6,a7,a8,a9,b0,b1,b2,b3,b4,b5,b6,b7,b8,b9,c0,c1]:=by
 match l,h with
 | [a0,a1,a2,a3,a4,a5,a6,a7,a8,a9,b0,b1,b2,b3,b4,b5,b6,b7,b8,b9,c0,c1],_=>exact⟨a0,a1,a2,a3,a4,a5,a6,a7,a8,a9,b0,b1,b2,b3,b4,b5,b6,b7,b8,b9,c0,c1,rfl⟩
theorem list10{α:Type} (l:List α) (h:l.length=10):∃ a0 a1 a2 a3 a4 a5 a6 a7 a8 a9,l=[a0,a1,a2,a3,a4,a5,a6,a7,a8,a9]:=by
 match l,h with
 | [a0,a1,a2,a3,a4,a5,a6,a7,a8,a9],_=>exact⟨a0,a1,a2,a3,a4,a5,a6,a7,a8,a9,rfl⟩
theorem list6{α:Type} (l:List α) (h:l.length=6):∃ a0 a1 a2 a3 a4 a5,l=[a0,a1,a2,a3,a4,a5]:=by
 match l,h with
 | [a0,a1,a2,a3,a4,a5],_=>exact⟨a0,a1,a2,a3,a4,a5,rfl⟩
theorem list2{α:Type} (l:List α) (h:l.length=2):∃ a0 a1,l=[a0,a1]:=by
 match l,h with
 | [a0,a1],_=>exact⟨a0,a1,rfl⟩
theorem open_ent(h:DataW.trod enc Tryz.prog W 0 (fun _=>true) true fuel 64 cs=some x):∃ p,EntT p∧p.cells.length=22∧Cells W p.cells cs:=by
 obtain⟨k,hk,_⟩:=fld_str (i:=0) (off:=0) (ty:=9) (by kernel_rfl) uP9 cP9 h
 obtain⟨v,hv,_⟩:=fld_str (i:=1) (off:=1) (ty:=9) (by kernel_rfl) uP9 cP9 h
 obtain⟨n2,h2⟩:=fld_int (i:=2) (off:=2) (ty:=3) (by kernel_rfl) uP3 cP3 h
 obtain⟨n3,h3⟩:=fld_int (i:=3) (off:=3) (ty:=3) (by kernel_rfl) uP3 cP3 h
 obtain⟨n4,h4⟩:=fld_int (i:=4) (off:=4) (ty:=3) (by kernel_rfl) uP3 cP3 h
 obtain⟨n5,h5⟩:=fld_int (i:=5) (off:=5) (ty:=3) (by kernel_rfl) uP3 cP3 h
 have hA:=fld_arr (i:=6) (off:=6) (ty:=27) (ty':=5) (by kernel_rfl) uP27 uP5 cP27 cP5 h
 have hl:=(trod_fld (i:=0) (off:=0) (ty:=9) (by kernel_rfl) h).1
 rw[cP64]at hl
 obtain⟨d0,e0⟩:=hA 0 (by decide)
 obtain⟨d1,e1⟩:=hA 1 (by decide)
 obtain⟨d2,e2⟩:=hA 2 (by decide)
 obtain⟨d3,e3⟩:=hA 3 (by decide)
 obtain⟨d4,e4⟩:=hA 4 (by decide)
 obtain⟨d5,e5⟩:=hA 5 (by decide)
 obtain⟨d6,e6⟩:=hA 6 (by decide)
 obtain⟨d7,e7⟩:=hA 7 (by decide)
 obtain⟨d8,e8⟩:=hA 8 (by decide)
 obtain⟨d9,e9⟩:=hA 9 (by decide)
 obtain⟨f0,g0⟩:=hA 10 (by decide)
 obtain⟨f1,g1⟩:=hA 11 (by decide)
 obtain⟨f2,g2⟩:=hA 12 (by decide)
 obtain⟨f3,g3⟩:=hA 13 (by decide)
 obtain⟨f4,g4⟩:=hA 14 (by decide)
 obtain⟨f5,g5⟩:=hA 15 (by decide)
 clear hA h
 obtain⟨a0,a1,a2,a3,a4,a5,a6,a7,a8,a9,b0,b1,b2,b3,b4,b5,b6,b7,b8,b9,c0,c1,rfl⟩:=list22 cs hl
 cases hk;cases hv;cases h2;cases h3;cases h4;cases h5
 cases e0;cases e1;cases e2;cases e3;cases e4;cases e5;cases e6;cases e7;cases e8;cases e9
 cases g0;cases g1;cases g2;cases g3;cases g4;cases g5
 refine⟨Ent.V ⟨k.data.toList,v.data.toList,n2,n3,n4,n5,⟨d0,d1,d2,d3,d4,d5,d6,d7,d8,d9,f0,f1,f2,f3,f4,f5⟩⟩,⟨_,rfl⟩,rfl,?_⟩
 exact .cons (.str _ _ rfl) rfl (.cons (.str _ _ rfl) rfl (.cons (.int _ _) rfl (.cons (.int _ _) rfl (.cons (.int _ _) rfl (.cons (.int _ _) rfl (.cons (.int _ _) rfl (.cons (.int _ _) rfl (.cons (.int _ _) rfl (.cons (.int _ _) rfl (.cons (.int _ _) rfl (.cons (.int _ _) rfl (.cons (.int _ _) rfl (.cons (.int _ _) rfl (.cons (.int _ _) rfl (.cons (.int _ _) rfl (.cons (.int _ _) rfl (.cons (.int _ _) rfl (.cons (.int _ _) rfl (.cons (.int _ _) rfl (.cons (.int _ _) rfl (.cons (.int _ _) rfl cells_nil)))))))))))))))))))))
theorem open_slQ{t e:TypeId} (sz:Nat) (Q:PV→Prop) (ht:Tryz.prog.underlying t=some (.slice e)) (hs:Tryz.prog.cellsOf e=sz) (h0:0<sz)
  (he:∀ n cs' (y:DataW H×List MemPlace),DataW.trod enc Tryz.prog W 0 (fun _=>true) true n e cs'=some y→∃ p,Q p∧p.cells.length=sz∧Cells W p.cells cs')
  (h:DataW.trod enc Tryz.prog W 0 (fun _=>true) true fuel t cs=some x):∃ v p xs,cs=[v]∧PR (frzOf W) p v∧v.oneCell'=true∧SlQ sz p xs∧(∀ p∈xs,Q p)∧xs.length<9223372036854775808:=by
 rcases open_sl sz Q ht hs h0 he h with h1|⟨a,len,cap,xs,h1,hlen,hlc,hcm,hq,hp,hn⟩
 ·exact⟨_,.nils,[],h1,.nils,rfl,.sl .nil,fun p hp=>(by cases hp),by decide⟩
 ·have hm:maxLen=9223372036854775807:=by decide
  by_cases hsp:a.spot=none
  ·exact⟨_,.vec sz xs,xs,h1,hp hsp,rfl,.sl (.vec _),hq,by omega⟩
  ·obtain⟨rfl,rfl⟩:=hn hsp
   have hx:xs=[]:=List.eq_nil_of_length_eq_zero hlen
   subst hx
   exact⟨_,.vec 0 [],[],h1,.emp,rfl,.emp,hq,by decide⟩
def isI(p:PV):Prop:=∃ n,p=.int .i64 n
theorem isI_ints:∀ (xs:List PV),(∀ p∈xs,isI p)→∃ l,xs=ints l
 | [],_=>⟨[],rfl⟩
 |p::xs,h=>by
  obtain⟨n,rfl⟩:=h p List.mem_cons_self
  obtain⟨l,rfl⟩:=isI_ints xs fun q hq=>h q (List.mem_cons_of_mem _ hq)
  exact⟨n::l,rfl⟩
theorem open_int(h:DataW.trod enc Tryz.prog W 0 (fun _=>true) true fuel 3 cs=some x):∃ p,isI p∧p.cells.length=1∧Cells W p.cells cs:=by
 obtain⟨n,rfl,_⟩:=DataW.trod_int uP3 h
 exact⟨_,⟨n,rfl⟩,rfl,.cons (.int _ _) rfl cells_nil⟩
theorem open_frd(h:DataW.trod enc Tryz.prog W 0 (fun _=>true) true fuel 375 cs=some x):∃ p,FrdT p∧p.cells.length=2∧Cells W p.cells cs:=by
 obtain⟨n,h0⟩:=fld_int (i:=0) (off:=0) (ty:=3) (by kernel_rfl) uP3 cP3 h
 obtain⟨hl,n1,y1,h1⟩:=trod_fld (i:=1) (off:=1) (ty:=23) (by kernel_rfl) h
 rw[cP375]at hl
 rw[cP23]at h1
 obtain⟨v,p,xs,e1,hp,ho,hS,hq,hb⟩:=open_slQ 1 isI uP23 cP3 (by decide) (fun _ _ _=>open_int) h1
 have e1:=take_drop1 e1
 obtain⟨l,rfl⟩:=isI_ints xs hq
 rw[ints_length]at hb
 obtain⟨a0,a1,rfl⟩:=list2 cs hl
 cases h0;cases e1
 exact⟨Frd.V ⟨n,p,l⟩,⟨_,rfl,hS,hb⟩,rfl,.cons (.int _ _) rfl (.cons hp ho cells_nil)⟩
theorem open_page(h:DataW.trod enc Tryz.prog W 0 (fun _=>true) true fuel 62 cs=some x):∃ p,PgT p∧p.cells.length=10∧Cells W p.cells cs:=by
 obtain⟨n0,h0⟩:=fld_int (i:=0) (off:=0) (ty:=3) (by kernel_rfl) uP3 cP3 h
 obtain⟨n1,h1⟩:=fld_int (i:=1) (off:=1) (ty:=3) (by kernel_rfl) uP3 cP3 h
 obtain⟨n2,h2⟩:=fld_int (i:=2) (off:=2) (ty:=3) (by kernel_rfl) uP3 cP3 h
 obtain⟨n3,h3⟩:=fld_int (i:=3) (off:=3) (ty:=3) (by kernel_rfl) uP3 cP3 h
 obtain⟨n4,h4⟩:=fld_int (i:=4) (off:=4) (ty:=3) (by kernel_rfl) uP3 cP3 h
 obtain⟨b,h5⟩:=fld_bool (i:=5) (off:=5) (ty:=4) (by kernel_rfl) uP4 cP4 h
 obtain⟨hl,m6,y6,h6⟩:=trod_fld (i:=6) (off:=6) (ty:=59) (by kernel_rfl) h
 obtain⟨n7,h7⟩:=fld_int (i:=7) (off:=7) (ty:=3) (by kernel_rfl) uP3 cP3 h
 obtain⟨s,h8,hs⟩:=fld_str (i:=8) (off:=8) (ty:=9) (by kernel_rfl) uP9 cP9 h
 obtain⟨_,m9,y9,h9⟩:=trod_fld (i:=9) (off:=9) (ty:=60) (by kernel_rfl) h
 rw[cP62]at hl
 rw[cP59]at h6
 rw[cP60]at h9
 obtain⟨v6,p6,es,e6,hp6,ho6,hS6,hq6,hb6⟩:=open_slQ 22 EntT uP59 cP64 (by decide) (fun _ _ _=>open_ent) h6
 obtain⟨v9,p9,fs,e9,hp9,ho9,hS9,hq9,hb9⟩:=open_slQ 2 FrdT uP60 cP375 (by decide) (fun _ _ _=>open_frd) h9
 have e6:=take_drop1 e6
 have e9:=take_drop1 e9
 clear h h6 h9
 obtain⟨a0,a1,a2,a3,a4,a5,a6,a7,a8,a9,rfl⟩:=list10 cs hl
 cases h0;cases h1;cases h2;cases h3;cases h4;cases h5;cases e6;cases h7;cases h8;cases e9
 have hm:maxLen=9223372036854775807:=by decide
 refine⟨_,pgT_mk (a0:=n0) (a1:=n1) (a2:=n2) (a3:=n3) (a4:=n4) (a7:=n7) (b:=b) (s:=s.data.toList) hS6 hS9 hq6 hq9,rfl,?_⟩
 exact .cons (.int _ _) rfl (.cons (.int _ _) rfl (.cons (.int _ _) rfl (.cons (.int _ _) rfl (.cons (.int _ _) rfl (.cons (.bool _) rfl (.cons hp6 ho6 (.cons (.int _ _) rfl (.cons (.str _ _ rfl) rfl (.cons hp9 ho9 cells_nil)))))))))
theorem open_slP{t e:TypeId} {v:Value} (sz:Nat) (Q:PV→Prop) (ht:Tryz.prog.underlying t=some (.slice e)) (hs:Tryz.prog.cellsOf e=sz) (h0:0<sz) (hv:∀ a len cap,v=.slice (some a) len cap→a.spot=none)
  (he:∀ n cs' (y:DataW H×List MemPlace),DataW.trod enc Tryz.prog W 0 (fun _=>true) true n e cs'=some y→∃ p,Q p∧p.cells.length=sz∧Cells W p.cells cs')
  (h:DataW.trod enc Tryz.prog W 0 (fun _=>true) true fuel t [v]=some x):∃ p xs,PR (frzOf W) p v∧v.oneCell'=true∧SlP sz p xs∧(∀ p∈xs,Q p):=by
 rcases open_sl sz Q ht hs h0 he h with h1|⟨a,len,cap,xs,h1,hlen,hlc,hcm,hq,hp,hn⟩
 ·cases h1
  exact⟨.nils,[],.nils,rfl,.nil,fun p hp=>(by cases hp)⟩
 ·cases h1
  exact⟨.vec sz xs,xs,hp (hv _ _ _ rfl),rfl,.vec _,hq⟩
theorem open_space(hv:∀ v∈cs,∀ a len cap,v=.slice (some a) len cap→a.spot=none) (h:DataW.trod enc Tryz.prog W 0 (fun _=>true) true fuel 25 cs=some x):∃ (S:Spc) (gs:List Pg),(SlP 10 S.p0 (gs.map Pg.V)∧SlP 1 S.p1 (ints S.fr)∧SlP 1 S.p2 (ints S.fs)∧SlP 1 S.p3 (ints S.gn)∧S.pgs=gs.map Pg.V∧∀ g∈gs,(SlQ 22 g.ep (g.es.map Ent.V)∧SlQ 2 g.fp (g.fs.map Frd.V)∧∀ f∈g.fs,f.ok))∧Cells W S.v.cells cs:=by
 obtain⟨hl,m0,y0,h0⟩:=trod_fld (i:=0) (off:=0) (ty:=22) (by kernel_rfl) h
 obtain⟨_,m1,y1,h1⟩:=trod_fld (i:=1) (off:=1) (ty:=23) (by kernel_rfl) h
 obtain⟨_,m2,y2,h2⟩:=trod_fld (i:=2) (off:=2) (ty:=23) (by kernel_rfl) h
 obtain⟨_,m3,y3,h3⟩:=trod_fld (i:=3) (off:=3) (ty:=23) (by kernel_rfl) h
 obtain⟨n4,h4⟩:=fld_int (i:=4) (off:=4) (ty:=3) (by kernel_rfl) uP3 cP3 h
 obtain⟨n5,h5⟩:=fld_int (i:=5) (off:=5) (ty:=3) (by kernel_rfl) uP3 cP3 h
 rw[cP25]at hl
 rw[cP22]at h0
 rw[cP23]at h1 h2 h3
 obtain⟨a0,a1,a2,a3,a4,a5,rfl⟩:=list6 cs hl
 cases h4;cases h5
 obtain⟨p0,x0,r0,o0,s0,q0⟩:=open_slP (v:=a0) 10 PgT uP22 cP62 (by decide) (hv _ (by simp)) (fun _ _ _=>open_page) h0
 obtain⟨p1,x1,r1,o1,s1,q1⟩:=open_slP (v:=a1) 1 isI uP23 cP3 (by decide) (hv _ (by simp)) (fun _ _ _=>open_int) h1
 obtain⟨p2,x2,r2,o2,s2,q2⟩:=open_slP (v:=a2) 1 isI uP23 cP3 (by decide) (hv _ (by simp)) (fun _ _ _=>open_int) h2
 obtain⟨p3,x3,r3,o3,s3,q3⟩:=open_slP (v:=a3) 1 isI uP23 cP3 (by decide) (hv _ (by simp)) (fun _ _ _=>open_int) h3
 obtain⟨l1,rfl⟩:=isI_ints x1 q1
 obtain⟨l2,rfl⟩:=isI_ints x2 q2
 obtain⟨l3,rfl⟩:=isI_ints x3 q3
 obtain⟨gs,rfl,hgs⟩:=map_of (V:=Pg.V) (Q:=PgT) (fun p h=>h) x0 q0
 exact⟨⟨p0,p1,p2,p3,gs.map Pg.V,l1,l2,l3,n4,n5⟩,gs,⟨s0,s1,s2,s3,rfl,hgs⟩,.cons r0 o0 (.cons r1 o1 (.cons r2 o2 (.cons r3 o3 (.cons (.int _ _) rfl (.cons (.int _ _) rfl cells_nil)))))⟩
theorem pr_space{S:Spc} {vs:Array Value} (hc:Cells W S.v.cells vs.toList):PR (frzOf W) S.v (.agg vs):=by
 obtain⟨h1,h2⟩:=hc
 have hlen:=h1.length
 refine .agg (cs:=S.v.cells) (by simpa using hlen) (fun i v hv=>h2 v (by
  have:vs.toList[i]?=some v:=by rw[Array.getElem?_toList];exact hv
  exact List.mem_of_getElem? this)) (fun i x v hx hv=>?_)
 obtain⟨b,hb,hr⟩:=h1.get i x hx
 have:vs.toList[i]?=some v:=by rw[Array.getElem?_toList];exact hv
 rw[hb]at this
 cases this
 exact hr
end
end Go.Proofs
namespace Go.Proofs
open Go Go.Ai Go.RowKit Go.Deep Go.ChangeShapes Go.WideShapes
section
variable {H:Type} {enc:TypeId×Value→H} {W:World} {fuel:Nat} {cs:List Value} {x:DataW H×List MemPlace}
theorem uP30:Tryz.prog.underlying 30=some (.slice 93):=by kernel_rfl
theorem cP93:Tryz.prog.cellsOf 93=2:=by kernel_rfl
theorem cP32:Tryz.prog.cellsOf 32=21:=by kernel_rfl
theorem cP29:Tryz.prog.cellsOf 29=18:=by kernel_rfl
theorem cP30:Tryz.prog.cellsOf 30=1:=by kernel_rfl
theorem open_stp(h:DataW.trod enc Tryz.prog W 0 (fun _=>true) true fuel 93 cs=some x):∃ p,StpT p∧p.cells.length=2∧Cells W p.cells cs:=by
 obtain⟨n0,h0⟩:=fld_int (i:=0) (off:=0) (ty:=3) (by kernel_rfl) uP3 cP3 h
 obtain⟨n1,h1⟩:=fld_int (i:=1) (off:=1) (ty:=3) (by kernel_rfl) uP3 cP3 h
 have hl:=(trod_fld (i:=0) (off:=0) (ty:=3) (by kernel_rfl) h).1
 rw[cP93]at hl
 obtain⟨a0,a1,rfl⟩:=list2 cs hl
 cases h0;cases h1
 exact⟨Stp.V ⟨n0,n1⟩,⟨_,rfl⟩,rfl,.cons (.int _ _) rfl (.cons (.int _ _) rfl cells_nil)⟩
theorem list21{α:Type} (l:List α) (h:l.length=21):∃ a0 a1 a2 a3 a4 a5 a6 a7 a8 a9 b0 b1 b2 b3 b4 b5 b6 b7 b8 b9 c0,l=[a0,a1,a2,a3,a4,a5,a6,a7,a8,a9,b0,b1,b2,b3,b4,b5,b6,b7,b8,b9,c0]:=by
 match l,h with
 | [a0,a1,a2,a3,a4,a5,a6,a7,a8,a9,b0,b1,b2,b3,b4,b5,b6,b7,b8,b9,c0],_=>exact⟨a0,a1,a2,a3,a4,a5,a6,a7,a8,a9,b0,b1,b2,b3,b4,b5,b6,b7,b8,b9,c0,rfl⟩
theorem open_cur(h:DataW.trod enc Tryz.prog W 0 (fun _=>true) true fuel 32 cs=some x):∃ c:Cur,SlQ 2 c.pp (c.l.map Stp.V)∧Cells W c.V.cells cs:=by
 obtain⟨hl,m0,y0,ht⟩:=trod_fld (i:=0) (off:=0) (ty:=29) (by kernel_rfl) h
 obtain⟨n1,h1⟩:=fld_int (i:=1) (off:=18) (ty:=3) (by kernel_rfl) uP3 cP3 h
 obtain⟨s,h2,_⟩:=fld_str (i:=2) (off:=19) (ty:=9) (by kernel_rfl) uP9 cP9 h
 obtain⟨_,m3,y3,h3⟩:=trod_fld (i:=3) (off:=20) (ty:=30) (by kernel_rfl) h
 rw[cP32]at hl
 rw[cP29]at ht
 rw[cP30]at h3
 obtain⟨v3,p3,xs,e3,hp3,ho3,hS3,hq3,_⟩:=open_slQ 2 StpT uP30 cP93 (by decide) (fun _ _ _=>open_stp) h3
 have e3:=take_drop1 e3
 obtain⟨l,rfl,_⟩:=map_of (V:=Stp.V) (Q:=StpT) (R:=fun _=>True) (fun p ⟨e,h⟩=>⟨e,h,trivial⟩) xs hq3
 obtain⟨a0,a1,a2,a3,a4,a5,a6,a7,a8,a9,b0,b1,b2,b3,b4,b5,b6,b7,b8,b9,c0,rfl⟩:=list21 cs hl
 obtain⟨r,hr⟩:=fld_int (i:=0) (off:=0) (ty:=3) (by kernel_rfl) uP3 cP3 ht
 obtain⟨n,hn⟩:=fld_int (i:=1) (off:=1) (ty:=3) (by kernel_rfl) uP3 cP3 ht
 have hA:=fld_arr (i:=2) (off:=2) (ty:=27) (ty':=5) (by kernel_rfl) uP27 uP5 cP27 cP5 ht
 obtain⟨d0,e0⟩:=hA 0 (by decide)
 obtain⟨d1,e1⟩:=hA 1 (by decide)
 obtain⟨d2,e2⟩:=hA 2 (by decide)
 obtain⟨d3,g3⟩:=hA 3 (by decide)
 obtain⟨d4,e4⟩:=hA 4 (by decide)
 obtain⟨d5,e5⟩:=hA 5 (by decide)
 obtain⟨d6,e6⟩:=hA 6 (by decide)
 obtain⟨d7,e7⟩:=hA 7 (by decide)
 obtain⟨d8,e8⟩:=hA 8 (by decide)
 obtain⟨d9,e9⟩:=hA 9 (by decide)
 obtain⟨f0,k0⟩:=hA 10 (by decide)
 obtain⟨f1,k1⟩:=hA 11 (by decide)
 obtain⟨f2,k2⟩:=hA 12 (by decide)
 obtain⟨f3,k3⟩:=hA 13 (by decide)
 obtain⟨f4,k4⟩:=hA 14 (by decide)
 obtain⟨f5,k5⟩:=hA 15 (by decide)
 clear hA ht h h3
 cases h1;cases h2;cases e3;cases hr;cases hn
 cases e0;cases e1;cases e2;cases g3;cases e4;cases e5;cases e6;cases e7;cases e8;cases e9
 cases k0;cases k1;cases k2;cases k3;cases k4;cases k5
 refine⟨⟨⟨r,n,⟨d0,d1,d2,d3,d4,d5,d6,d7,d8,d9,f0,f1,f2,f3,f4,f5⟩⟩,n1,s.data.toList,p3,l⟩,hS3,?_⟩
 exact .cons (.int _ _) rfl (.cons (.int _ _) rfl (.cons (.int _ _) rfl (.cons (.int _ _) rfl (.cons (.int _ _) rfl (.cons (.int _ _) rfl (.cons (.int _ _) rfl (.cons (.int _ _) rfl (.cons (.int _ _) rfl (.cons (.int _ _) rfl (.cons (.int _ _) rfl (.cons (.int _ _) rfl (.cons (.int _ _) rfl (.cons (.int _ _) rfl (.cons (.int _ _) rfl (.cons (.int _ _) rfl (.cons (.int _ _) rfl (.cons (.int _ _) rfl (.cons (.int _ _) rfl (.cons (.str _ _ rfl) rfl (.cons hp3 ho3 cells_nil))))))))))))))))))))
end
end Go.Proofs
namespace Go.Proofs
open Go Go.Ai Go.RowKit Go.Deep Go.ChangeShapes Go.WideShapes
variable {W:World}
theorem pr_cur{c:Cur} {vs:Array Value} (hc:Cells W c.V.cells vs.toList):PR (frzOf W) c.V (.agg vs):=by
 obtain⟨h1,h2⟩:=hc
 have hlen:=h1.length
 refine .agg (cs:=c.V.cells) (by simpa using hlen) (fun i v hv=>h2 v (by
  have:vs.toList[i]?=some v:=by rw[Array.getElem?_toList];exact hv
  exact List.mem_of_getElem? this)) (fun i x v hx hv=>?_)
 obtain⟨b,hb,hr⟩:=h1.get i x hx
 have:vs.toList[i]?=some v:=by rw[Array.getElem?_toList];exact hv
 rw[hb]at this
 cases this
 exact hr
theorem lawI_of{S:Spc} {gs:List Pg} {c d:Cur} (h:SlP 10 S.p0 (gs.map Pg.V)∧SlP 1 S.p1 (ints S.fr)∧SlP 1 S.p2 (ints S.fs)∧SlP 1 S.p3 (ints S.gn)∧S.pgs=gs.map Pg.V∧∀ g∈gs,(SlQ 22 g.ep (g.es.map Ent.V)∧SlQ 2 g.fp (g.fs.map Frd.V)∧∀ f∈g.fs,f.ok))
  (hc:SlQ 2 c.pp (c.l.map Stp.V)) (hd:SlQ 2 d.pp (d.l.map Stp.V)):LawI S gs c d:=
 ⟨h.1,h.2.1,h.2.2.1,h.2.2.2.1,h.2.2.2.2.1,fun g hg=>⟨(h.2.2.2.2.2 g hg).1,(h.2.2.2.2.2 g hg).2.1⟩,fun g hg=>(h.2.2.2.2.2 g hg).2.2,hc,hd⟩
end Go.Proofs

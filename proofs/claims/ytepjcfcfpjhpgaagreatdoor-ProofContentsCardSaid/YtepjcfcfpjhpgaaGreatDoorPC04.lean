/- What is proved: contracts of Sound, of opening a space. Conditions: as before. -/
import Derived.Test.YtepjcfcfpjhpgaaGreatDoorPC03
import Derived.Test.YtepjcfcfpjhpgaaGreatDoorPC01
set_option linter.all false
set_option maxRecDepth 100000
namespace Go.Proofs
open Go Go.Ai
theorem take_snoc{l:List Int} {i:Nat} (hi:i<l.length):l.take (i+1)=l.take i++[l.getD i 0]:=by
 rw[List.take_add_one,List.getElem?_eq_getElem hi]
 simp [List.getD,hi]
inductive SlP (sz:Nat):PV→List PV→Prop
 |nil:SlP sz .nils []
 |vec (xs):SlP sz (.vec sz xs) xs
theorem SlP.sl{sz p xs} (H:SlP sz p xs) (h:List Ob):Sl h sz (.p p) xs:=by
 cases H with
 |nil=>exact .nil
 |vec=>exact .vec _
theorem SlP.is{sz p xs} (H:SlP sz p xs):IsS sz (.pv p) xs:=by
 cases H with
 |nil=>exact .nil
 |vec=>exact .vec _
theorem SlP.eok{sz p xs} (H:SlP sz p xs):EOk cx 23 p:=by
 cases H with
 |nil=>
  refine⟨?_,?_⟩
  ·unfold loadC;rw[a23]
  ·unfold part?;rw[a23];rfl
 |vec=>
  refine⟨?_,?_⟩
  ·unfold loadC;rw[a23]
  ·unfold part?;rw[a23];rfl
theorem store_el{c:Ctx} {h:List Ob} {ty:TypeId} {i g k:Nat} {e:TypeId} {xs:List PV} {ex:Bool} {v x:PV} (hs:sizeOf? c ty=some 1) (hr:hget h i=.row e 1 xs ex g) (hk:xs[k]?=some x) (hx:∀ l,x ≠ .agg l) (hx1:x.cells=[x]) (hv:v.cells=[v]) :
  store? c h ty (.el i g 1 k 0) (.p v)=.wh undefA (hset h i (.row e 1 (xs.set k v) ex g)):=by
 unfold store?
 simp only[hs]
 unfold storeEl
 simp only[pure1,hv,List.length_singleton,Nat.beq_refl,cond,hr,Bool.and_self,pget_eq,hk,hx1]
 unfold overK
 simp only[List.length_singleton,Nat.zero_add]
 rw[Nat.ble_eq_true_of_le (Nat.le_refl 1)]
 simp only[cond,lnf_eq,List.take_zero,List.nil_append,List.drop_one,List.tail_cons,List.append_nil]
 have:reElem x [v]=some v:=by
  unfold reElem
  cases x<;>first|rfl|exact absurd rfl (hx _)
 rw[this]
 simp only[lnf_eq,hsetK_eq]
def marks(vis:List Int) (n:Nat):List PV:=(List.range n).map fun(k:Nat)=>.bool (decide ((k:Int)∈vis))
theorem marks_len(vis n):(marks vis n).length=n:=by unfold marks;simp
theorem marks_nil(n):List.replicate n (PV.bool false)=marks [] n:=by
 unfold marks
 apply List.ext_getElem?
 intro i
 rw[List.getElem?_replicate,List.getElem?_map]
 by_cases h:i<n
 ·rw[if_pos h,List.getElem?_range h];simp
 ·rw[if_neg h,List.getElem?_eq_none (by simp;omega)];rfl
theorem marks_get{vis n k} (h:k<n):(marks vis n)[k]?=some (.bool (decide ((k:Int)∈vis))):=by
 unfold marks
 rw[List.getElem?_map,List.getElem?_range h];rfl
theorem marks_set{vis n} {x:Int} (h0:0≤x):(marks vis n).set x.toNat (.bool true)=marks (vis++[x]) n:=by
 apply List.ext_getElem?
 intro i
 rw[List.getElem?_set,marks_len]
 by_cases hi:i<n
 ·rw[marks_get hi,marks_get hi]
  by_cases q:x.toNat=i
  ·rw[if_pos q,if_pos (by omega)]
   have:(i:Int)=x:=by omega
   rw[this];simp
  ·rw[if_neg q]
   have:(i:Int) ≠ x:=by omega
   congr 2
   simp [this]
 ·rw[List.getElem?_eq_none (l:=marks vis n) (by rw[marks_len];omega),List.getElem?_eq_none (l:=marks (vis++[x]) n) (by rw[marks_len];omega)]
  by_cases q:x.toNat=i
  ·rw[if_pos q,if_neg (by omega)]
  ·rw[if_neg q]
theorem make_bools{h:List Ob} {n:Nat} (hn:n<1000000):makeSlice? cx h 150 (.p (.int .i64 (n:Int))) (.p (.int .i64 (n:Int)))=.wn (.sl h.length 0 1 0 n) (.row 4 1 (marks [] n) true 0):=by
 obtain⟨i,hi,hs,hb⟩:∃ i,cx.info 4=some i∧i.size=1∧i.bytes=1:=by
  cases hq:cx.info 4 with
  |none=>
   have:(cx.info 4).isSome=true:=by kernel_rfl
   rw[hq]at this;cases this
  |some i=>
   have h1:(cx.info 4).map (fun i=>(i.size,i.bytes))=some (1,1):=by kernel_rfl
   rw[hq]at h1
   have:(i.size,i.bytes)=(1,1):=Option.some.inj h1
   exact⟨i,rfl,congrArg Prod.fst this,congrArg Prod.snd this⟩
 unfold makeSlice?
 simp only[u150]
 unfold onII onI
 simp only[hi,z4,a4]
 have:(!ltI (n:Int) 0 && !ltI (n:Int) (n:Int) && !ltI 140737488355328 (Int.mul i.bytes (n:Int))&&Nat.ble 1 i.bytes&&Nat.ble 1 i.size&&fitsA false i.size (.bool false))=true:=by
  rw[hs,hb]
  simp only[ltI_eq]
  rw[decide_eq_false (show ¬((n:Int)<0) by omega),decide_eq_false (show ¬((n:Int)<(n:Int)) by omega),decide_eq_false (show ¬(140737488355328<Int.mul ((1:Nat):Int) (n:Int)) by show ¬(140737488355328<((1:Nat):Int)*(n:Int));omega)]
  rfl
 rw[this]
 simp only[cond,hs]
 unfold Ai.newRow
 simp only[forceN_eq,lnf_eq,Int.toNat_natCast,marks_nil]
structure Spc where
 p0:PV
 p1:PV
 p2:PV
 p3:PV
 pgs:List PV
 fr:List Int
 fs:List Int
 gn:List Int
 ver:Int
 tr:Int
structure SpcOk (S:Spc):Prop where
 h0:SlP 10 S.p0 S.pgs
 h1:SlP 1 S.p1 (ints S.fr)
 h2:SlP 1 S.p2 (ints S.fs)
 h3:SlP 1 S.p3 (ints S.gn)
 l0:S.pgs.length<100000
 l1:S.fr.length<100000
 l2:S.fs.length<100000
 l3:S.gn.length<100000
def Spc.v(S:Spc):PV:=.agg [S.p0,S.p1,S.p2,S.p3,.int .i64 S.ver,.int .i64 S.tr]
def Spc.cells(S:Spc):List AV:=[.p S.p0,.p S.p1,.p S.p2,.p S.p3,.p (.int .i64 S.ver),.p (.int .i64 S.tr)]
def Spc.L(S:Spc) (i:Nat):List Int:=[S.fr,S.fs,S.gn].getD i []
def Spc.P(S:Spc) (i:Nat):PV:=[S.p1,S.p2,S.p3].getD i .nilp
def Spc.pre(S:Spc) (i:Nat):List Int:=([S.fr,S.fs,S.gn].take i).flatten
theorem Spc.pre_succ(S:Spc) {i:Nat} (hi:i<3):S.pre (i+1)=S.pre i++S.L i:=by
 unfold Spc.pre Spc.L
 match i,hi with
 |0,_=>simp
 |1,_=>simp
 |2,_=>simp
theorem SpcOk.lP{S:Spc} (O:SpcOk S) {i:Nat} (hi:i<3):SlP 1 (S.P i) (ints (S.L i))∧(S.L i).length<100000:=by
 match i,hi with
 |0,_=>exact⟨O.h1,O.l1⟩
 |1,_=>exact⟨O.h2,O.l2⟩
 |2,_=>exact⟨O.h3,O.l3⟩
def Spc.okN(S:Spc):Prop:=2≤S.pgs.length∧S.pgs.length≤4096∧0≤S.ver∧S.ver≤1099511627776∧0≤S.tr∧S.tr≤255
def Spc.Sound(S:Spc):Prop:=S.okN∧(∀ i,i<3→IncP (S.L i) (S.pgs.length:Nat))∧(S.pre 3).Nodup
noncomputable def Spc.soundE(S:Spc):Int:=@ite _ S.Sound (Classical.propDecidable _) 0 2
theorem Spc.soundE_t{S:Spc} (h:S.Sound):S.soundE=0:=@if_pos _ (Classical.propDecidable _) h _ _ _
theorem Spc.soundE_f{S:Spc} (h:¬S.Sound):S.soundE=2:=@if_neg _ (Classical.propDecidable _) h _ _ _
section
variable {o:Orc} (ho:FreeT o)
include ho
theorem sound18{S:Spc} (O:SpcOk S):Ct cx o (.fn 83 [.p S.v]) [] (fun e _=>e=.ret (.p (.int .i64 S.soundE))):=by
 refine ct83 (ho _ _ _ (by decide)) rfl ?_
 have hbox:∀ hh:List Ob,boxW hh 25 (.p S.v)=.wn (.ptr hh.length 0) (.cells 25 S.cells):=fun hh=>rfl
 have fa0:fieldAddr? cx 25 (.ptr 0 0) 0=some (.ptr 0 0):=fieldAddr_ptr (m:=0) f25_0 s22
 have fa1:fieldAddr? cx 25 (.ptr 0 0) 1=some (.ptr 0 1):=fieldAddr_ptr (m:=0) f25_1 s23
 have fa2:fieldAddr? cx 25 (.ptr 0 0) 2=some (.ptr 0 2):=fieldAddr_ptr (m:=0) f25_2 s23
 have fa3:fieldAddr? cx 25 (.ptr 0 0) 3=some (.ptr 0 3):=fieldAddr_ptr (m:=0) f25_3 s23
 have fa4:fieldAddr? cx 25 (.ptr 0 0) 4=some (.ptr 0 4):=fieldAddr_ptr (m:=0) f25_4 s3
 have fa5:fieldAddr? cx 25 (.ptr 0 0) 5=some (.ptr 0 5):=fieldAddr_ptr (m:=0) f25_5 s3
 have ld0:∀ l:List Ob,load? cx (.cells 25 S.cells::l) 22 (.ptr 0 0)=some (.p S.p0):=fun l=>load_one a22 rfl rfl
 have ld1:∀ l:List Ob,load? cx (.cells 25 S.cells::l) 23 (.ptr 0 1)=some (.p S.p1):=fun l=>load_one a23 rfl rfl
 have ld2:∀ l:List Ob,load? cx (.cells 25 S.cells::l) 23 (.ptr 0 2)=some (.p S.p2):=fun l=>load_one a23 rfl rfl
 have ld3:∀ l:List Ob,load? cx (.cells 25 S.cells::l) 23 (.ptr 0 3)=some (.p S.p3):=fun l=>load_one a23 rfl rfl
 have ld4:∀ l:List Ob,load? cx (.cells 25 S.cells::l) 3 (.ptr 0 4)=some (.p (.int .i64 S.ver)):=fun l=>load_one a3 rfl rfl
 have ld5:∀ l:List Ob,load? cx (.cells 25 S.cells::l) 3 (.ptr 0 5)=some (.p (.int .i64 S.tr)):=fun l=>load_one a3 rfl rfl
 have len0:∀ hh:List Ob,lenW cx hh 22 (.p S.p0)=_:=fun hh=>(O.h0.sl hh).len u22
 by_cases c1:((S.pgs.length:Nat):Int)<2
 ·have hb:S.soundE=2:=Spc.soundE_f fun q=>by have:=q.1.1;omega
  simp only[sc83r0,sc83r1,sc83r2,sc83r3,sc83r4,sc83r5,sc83r6,sc83r7,sc83r8,sc83r9,sc83r10,sc83r11,sc83r12,sc83r13,sc83r14,sc83r16,sc83r18,sc83,↓rwS,rwT,rwG,Nat.reduceEqDiff,Nat.reduceAdd,reduceCtorEq,Nat.reduceLT,hbox,List.nil_append,List.length_nil,fa0,ld0,len0,c1,decide_true,hb]
 by_cases c2:(4096:Int)<((S.pgs.length:Nat):Int)
 ·have hb:S.soundE=2:=Spc.soundE_f fun q=>by have:=q.1.2.1;omega
  simp only[sc83r0,sc83r1,sc83r2,sc83r3,sc83r4,sc83r5,sc83r6,sc83r7,sc83r8,sc83r9,sc83r10,sc83r11,sc83r12,sc83r13,sc83r14,sc83r16,sc83r18,sc83,↓rwS,rwT,rwG,Nat.reduceEqDiff,Nat.reduceAdd,reduceCtorEq,Nat.reduceLT,hbox,List.nil_append,List.length_nil,fa0,ld0,len0,c1,c2,decide_true,decide_false,hb]
 by_cases c3:S.ver<0
 ·have hb:S.soundE=2:=Spc.soundE_f fun q=>by have:=q.1.2.2.1;omega
  simp only[sc83r0,sc83r1,sc83r2,sc83r3,sc83r4,sc83r5,sc83r6,sc83r7,sc83r8,sc83r9,sc83r10,sc83r11,sc83r12,sc83r13,sc83r14,sc83r16,sc83r18,sc83,↓rwS,rwT,rwG,Nat.reduceEqDiff,Nat.reduceAdd,reduceCtorEq,Nat.reduceLT,hbox,List.nil_append,List.length_nil,fa0,ld0,len0,fa4,ld4,c1,c2,c3,decide_true,decide_false,hb]
 by_cases c4:1099511627776<S.ver
 ·have hb:S.soundE=2:=Spc.soundE_f fun q=>by have:=q.1.2.2.2.1;omega
  simp only[sc83r0,sc83r1,sc83r2,sc83r3,sc83r4,sc83r5,sc83r6,sc83r7,sc83r8,sc83r9,sc83r10,sc83r11,sc83r12,sc83r13,sc83r14,sc83r16,sc83r18,sc83,↓rwS,rwT,rwG,Nat.reduceEqDiff,Nat.reduceAdd,reduceCtorEq,Nat.reduceLT,hbox,List.nil_append,List.length_nil,fa0,ld0,len0,fa4,ld4,c1,c2,c3,c4,decide_true,decide_false,hb]
 by_cases c5:S.tr<0
 ·have hb:S.soundE=2:=Spc.soundE_f fun q=>by have:=q.1.2.2.2.2.1;omega
  simp only[sc83r0,sc83r1,sc83r2,sc83r3,sc83r4,sc83r5,sc83r6,sc83r7,sc83r8,sc83r9,sc83r10,sc83r11,sc83r12,sc83r13,sc83r14,sc83r16,sc83r18,sc83,↓rwS,rwT,rwG,Nat.reduceEqDiff,Nat.reduceAdd,reduceCtorEq,Nat.reduceLT,hbox,List.nil_append,List.length_nil,fa0,ld0,len0,fa4,ld4,fa5,ld5,c1,c2,c3,c4,c5,decide_true,decide_false,hb]
 by_cases c6:255<S.tr
 ·have hb:S.soundE=2:=Spc.soundE_f fun q=>by have:=q.1.2.2.2.2.2;omega
  simp only[sc83r0,sc83r1,sc83r2,sc83r3,sc83r4,sc83r5,sc83r6,sc83r7,sc83r8,sc83r9,sc83r10,sc83r11,sc83r12,sc83r13,sc83r14,sc83r16,sc83r18,sc83,↓rwS,rwT,rwG,Nat.reduceEqDiff,Nat.reduceAdd,reduceCtorEq,Nat.reduceLT,hbox,List.nil_append,List.length_nil,fa0,ld0,len0,fa4,ld4,fa5,ld5,c1,c2,c3,c4,c5,c6,decide_true,decide_false,hb]
 have okN:S.okN:=⟨by omega,by omega,by omega,by omega,by omega,by omega⟩
 have mk:∀ hh:List Ob,makeSlice? cx hh 150 (.p (.int .i64 ((S.pgs.length:Nat):Int))) (.p (.int .i64 ((S.pgs.length:Nat):Int)))=_:=fun hh=>make_bools (by omega)
 have bs:∀ hh:List Ob,buildSlice? cx hh 258 3 [(0,.p S.p1),(1,.p S.p2),(2,.p S.p3)]=.wh (.sl hh.length 0 1 0 3) (hh++[.row 23 1 [S.p1,S.p2,S.p3] true 0]):=fun hh=>by
  have e1:fitsA false 1 S.p1=true:=by have:=O.h1;generalize S.p1=p at this;generalize ints S.fr=xs at this;cases this<;>rfl
  have e2:fitsA false 1 S.p2=true:=by have:=O.h2;generalize S.p2=p at this;generalize ints S.fs=xs at this;cases this<;>rfl
  have e3:fitsA false 1 S.p3=true:=by have:=O.h3;generalize S.p3=p at this;generalize ints S.gn=xs at this;cases this<;>rfl
  unfold buildSlice?
  simp only[u258,s23,a23,pureParts,pure1,zeros?,z23]
  have:(Nat.ble (3*(0+1)) 16777216&&allFit2 false (0+1) [(0,S.p1),(1,S.p2),(2,S.p3)]&&allFit false (0+1) [PV.nils,PV.nils,PV.nils])=true:=by
   simp only[allFit2,e1,e2,e3,cond];rfl
  simp only[List.replicate]at this ⊢
  rw[this]
  simp only[cond,setAll,List.length_cons,List.length_nil,lnf_eq,List.set]
  show newRowH hh 23 1 [S.p1,S.p2,S.p3] true 3=_
  unfold newRowH
  simp only[forceN_eq,lnf_eq]
 have hS:∀ vis,Sl [.cells 25 S.cells,.row 4 1 (marks vis S.pgs.length) true 0,.row 23 1 [S.p1,S.p2,S.p3] true 0] 1 (.sl 2 0 1 0 3) [S.p1,S.p2,S.p3]:=fun vis=>.sl (xs:=[S.p1,S.p2,S.p3]) rfl rfl
 have hM:∀ vis,Sl [.cells 25 S.cells,.row 4 1 (marks vis S.pgs.length) true 0,.row 23 1 [S.p1,S.p2,S.p3] true 0] 1 (.sl 1 0 1 0 S.pgs.length) (marks vis S.pgs.length):=fun vis=>.sl (xs:=marks vis S.pgs.length) rfl (by
  have:=sub_all (marks vis S.pgs.length)
  rw[marks_len]at this;exact this)
 simp only[sc83r0,sc83r1,sc83r2,sc83r3,sc83r4,sc83r5,sc83r6,sc83r7,sc83r8,sc83r9,sc83r10,sc83r11,sc83r12,sc83r13,sc83r14,sc83r16,sc83r18,sc83,↓rwS,rwT,rwG,Nat.reduceEqDiff,Nat.reduceAdd,reduceCtorEq,Nat.reduceLT,hbox,List.cons_append,List.nil_append,List.length_cons,List.length_nil,fa0,ld0,len0,fa4,ld4,fa5,ld5,c1,c2,c3,c4,c5,c6,decide_false,mk,fa1,fa2,fa3,ld1,ld2,ld3,bs]
 refine xC_loop (fun m t h' d r => ∃ i : Nat, m = 3 - i ∧ i ≤ 3 ∧ (∀ k, k < i → IncP (S.L k) (S.pgs.length : Nat)) ∧ (S.pre i).Nodup ∧ d = [] ∧ r = none ∧ t.get 3 = .p (.int .i64 (S.pgs.length : Nat)) ∧ t.get 4 = .sl 1 0 1 0 S.pgs.length ∧ t.get 46 = .sl 2 0 1 0 3 ∧ t.get 47 = .p (.int .i64 ((3 : Nat) : Int)) ∧ t.get 48 = .p (.int .i64 (i : Int)) ∧
   h'=[.cells 25 S.cells,.row 4 1 (marks (S.pre i) S.pgs.length) true 0,.row 23 1 [S.p1,S.p2,S.p3] true 0]) 3 ?_ ?_
 ·refine⟨0,rfl,by omega,fun k hk=>by omega,List.nodup_nil,rfl,rfl,?_⟩
  simp only[↓rwA,rwB,rwG,Nat.reduceEqDiff,Nat.reduceAdd,reduceCtorEq,Nat.reduceLT,true_and]
  all_goals(first|rfl|exact⟨rfl,rfl⟩|exact⟨rfl,rfl,rfl⟩|exact⟨rfl,trivial⟩|exact trivial)
 ·rintro m t h' d r ⟨i,rfl,hi,hinc,hnd,rfl,rfl,t3,t4,t46,t47,t48,rfl⟩
  have w1:=one64 (show i<4611686018427387904 by omega)
  by_cases hlt:(i:Int)<((3:Nat):Int)
  ·have hi3:i<3:=by omega
   obtain⟨hP,hLl⟩:=O.lP hi3
   have ia:indexAddr? cx 258 (.sl 2 0 1 0 3) (.p (.int .i64 (i:Int)))=some (rdS (.sl 2 0 1 0 3) i):=by
    rw[(hS []).at (sz:=0) u258 s23 (by omega) (by simp;omega),Int.toNat_natCast]
   have ld:∀ vis,load? cx [.cells 25 S.cells,.row 4 1 (marks vis S.pgs.length) true 0,.row 23 1 [S.p1,S.p2,S.p3] true 0] 23 (rdS (.sl 2 0 1 0 3) i)=some (.p (S.P i)):=fun vis=>by
    have e1:[S.p1,S.p2,S.p3].getD i .nilp=S.P i:=rfl
    rw[(hS vis).load (c:=cx) (by simp;omega) (by rw[e1];exact hP.eok),e1]
   simp only[sc83r0,sc83r1,sc83r2,sc83r3,sc83r4,sc83r5,sc83r6,sc83r7,sc83r8,sc83r9,sc83r10,sc83r11,sc83r12,sc83r13,sc83r14,sc83r16,sc83r18,sc83,sc83l17,↓rwS,rwT,rwG,Nat.reduceEqDiff,Nat.reduceAdd,reduceCtorEq,Nat.reduceLT,t3,t4,t46,t47,t48,hlt,decide_true,ia,ld,(hP.sl _).len u23,ints_length]
   refine xC_loop (fun m t h' d r => ∃ j : Nat, m = (S.L i).length - j ∧ j ≤ (S.L i).length ∧ (∀ k, k < j → 2 ≤ (S.L i).getD k 0 ∧ (S.L i).getD k 0 < (S.pgs.length : Nat) ∧ (0 < k → (S.L i).getD (k - 1) 0 < (S.L i).getD k 0)) ∧ (S.pre i ++ (S.L i).take j).Nodup ∧ d = [] ∧ r = none ∧
    t.get 3=.p (.int .i64 (S.pgs.length:Nat))∧t.get 4=.sl 1 0 1 0 S.pgs.length∧t.get 6=.p (S.P i)∧t.get 46=.sl 2 0 1 0 3∧t.get 47=.p (.int .i64 ((3:Nat):Int))∧t.get 48=.p (.int .i64 (i:Int))∧t.get 52=.p (S.P i)∧t.get 53=.p (.int .i64 ((S.L i).length:Nat))∧t.get 54=.p (.int .i64 (j:Int)) ∧
    h'=[.cells 25 S.cells,.row 4 1 (marks (S.pre i++(S.L i).take j) S.pgs.length) true 0,.row 23 1 [S.p1,S.p2,S.p3] true 0]) (S.L i).length ?_ ?_
   ·refine⟨0,rfl,by omega,fun k hk=>by omega,by simpa using hnd,rfl,rfl,?_⟩
    simp only[↓rwA,rwB,rwG,Nat.reduceEqDiff,Nat.reduceAdd,reduceCtorEq,Nat.reduceLT,true_and,t3,t4,t46,t47,t48,List.take_zero,List.append_nil]
    all_goals(first|rfl|exact⟨rfl,rfl⟩|exact⟨rfl,rfl,rfl⟩|exact⟨rfl,trivial⟩|exact trivial)
   ·rintro m t h' d r ⟨j,rfl,hj,hok,hnd2,rfl,rfl,t3,t4,t6,t46,t47,t48,t52,t53,t54,rfl⟩
    have w2:=one64 (show j<4611686018427387904 by omega)
    by_cases hlj:(j:Int)<(((S.L i).length:Nat):Int)
    ·have hjl:j<(S.L i).length:=by omega
     obtain⟨ja,jd⟩:=int_at (k:=j) (hP.sl [.cells 25 S.cells,.row 4 1 (marks (S.pre i++(S.L i).take j) S.pgs.length) true 0,.row 23 1 [S.p1,S.p2,S.p3] true 0]) u23 hjl
     have bad:¬(2≤(S.L i).getD j 0∧(S.L i).getD j 0<(S.pgs.length:Nat)∧(0<j→(S.L i).getD (j-1) 0<(S.L i).getD j 0))→S.soundE=2:=fun q=>Spc.soundE_f fun hs=>q (hs.2.1 i hi3 j hjl)
     by_cases b1:(S.L i).getD j 0<2
     ·simp only[sc83r0,sc83r1,sc83r2,sc83r3,sc83r4,sc83r5,sc83r6,sc83r7,sc83r8,sc83r9,sc83r10,sc83r11,sc83r12,sc83r13,sc83r14,sc83l15,sc83r16,sc83l17,sc83r18,sc83,↓rwS,rwT,rwG,Nat.reduceEqDiff,Nat.reduceAdd,reduceCtorEq,Nat.reduceLT,t3,t4,t6,t46,t47,t48,t52,t53,t54,hlj,ja,jd,b1,decide_true,bad (by omega)]
     by_cases b2:((S.pgs.length:Nat):Int)≤(S.L i).getD j 0
     ·simp only[sc83r0,sc83r1,sc83r2,sc83r3,sc83r4,sc83r5,sc83r6,sc83r7,sc83r8,sc83r9,sc83r10,sc83r11,sc83r12,sc83r13,sc83r14,sc83l15,sc83r16,sc83l17,sc83r18,sc83,↓rwS,rwT,rwG,Nat.reduceEqDiff,Nat.reduceAdd,reduceCtorEq,Nat.reduceLT,t3,t4,t6,t46,t47,t48,t52,t53,t54,hlj,ja,jd,b1,b2,decide_true,decide_false,bad (by omega)]
     have hx0:0≤(S.L i).getD j 0:=by omega
     have hxn:(S.L i).getD j 0<((S.pgs.length:Nat):Int):=by omega
     have hxt:((S.L i).getD j 0).toNat<S.pgs.length:=by omega
     have hxc:(((S.L i).getD j 0).toNat:Int)=(S.L i).getD j 0:=by omega
     have ma:indexAddr? cx 150 (.sl 1 0 1 0 S.pgs.length) (.p (.int .i64 ((S.L i).getD j 0)))=some (rdS (.sl 1 0 1 0 S.pgs.length) ((S.L i).getD j 0).toNat):=(hM []).at (sz:=0) u150 s4 hx0 (by rw[marks_len];exact hxn)
     have md:load? cx [.cells 25 S.cells,.row 4 1 (marks (S.pre i++(S.L i).take j) S.pgs.length) true 0,.row 23 1 [S.p1,S.p2,S.p3] true 0] 4 (rdS (.sl 1 0 1 0 S.pgs.length) ((S.L i).getD j 0).toNat)=some (.p (.bool (decide ((S.L i).getD j 0∈S.pre i++(S.L i).take j)))):=by
      have e1:(marks (S.pre i++(S.L i).take j) S.pgs.length).getD ((S.L i).getD j 0).toNat .nilp=.bool (decide ((S.L i).getD j 0∈S.pre i++(S.L i).take j)):=by
       rw[List.getD,marks_get hxt,hxc];rfl
      rw[(hM _).load (c:=cx) (by rw[marks_len];exact hxt) (by rw[e1];exact eok_bool a4),e1]
     have snoc:S.pre i++(S.L i).take (j+1)=(S.pre i++(S.L i).take j)++[(S.L i).getD j 0]:=by rw[take_snoc hjl,List.append_assoc]
     by_cases b3:(S.L i).getD j 0∈S.pre i++(S.L i).take j
     ·have hb:S.soundE=2:=Spc.soundE_f fun hs=>by
       have h3:(S.pre (i+1)).Nodup:=by
        have:=hs.2.2
        have hsub:∀ a b,a≤b→b≤3→(S.pre b).Nodup→(S.pre a).Nodup:=by
         intro a b hab hb hn
         induction b with
         |zero=>rw[Nat.le_zero.1 hab];exact hn
         |succ b ih=>
          by_cases q:a=b+1
          ·rw[q];exact hn
          ·rw[S.pre_succ (by omega),List.nodup_append]at hn
           exact ih (by omega) (by omega) hn.1
        exact hsub (i+1) 3 (by omega) (Nat.le_refl _) this
       rw[S.pre_succ hi3,← List.take_append_drop (j+1) (S.L i),← List.append_assoc,List.nodup_append]at h3
       have h4:=h3.1
       rw[snoc,List.nodup_append]at h4
       exact h4.2.2 _ b3 _ (List.mem_singleton.2 rfl) rfl
      simp only[sc83r0,sc83r1,sc83r2,sc83r3,sc83r4,sc83r5,sc83r6,sc83r7,sc83r8,sc83r9,sc83r10,sc83r11,sc83r12,sc83r13,sc83r14,sc83l15,sc83r16,sc83l17,sc83r18,sc83,↓rwS,rwT,rwG,Nat.reduceEqDiff,Nat.reduceAdd,reduceCtorEq,Nat.reduceLT,t3,t4,t6,t46,t47,t48,t52,t53,t54,hlj,ja,jd,b1,b2,b3,ma,md,decide_true,decide_false,hb]
     have nd3:(S.pre i++(S.L i).take (j+1)).Nodup:=by
      rw[snoc,List.nodup_append]
      refine⟨hnd2,by simp,fun a ha b hb=>?_⟩
      rw[List.mem_singleton.1 hb]
      intro q;subst q;exact b3 ha
     have st:store? cx [.cells 25 S.cells,.row 4 1 (marks (S.pre i++(S.L i).take j) S.pgs.length) true 0,.row 23 1 [S.p1,S.p2,S.p3] true 0] 4 (rdS (.sl 1 0 1 0 S.pgs.length) ((S.L i).getD j 0).toNat) (.p (.bool true)) =
       .wh undefA [.cells 25 S.cells,.row 4 1 (marks (S.pre i++(S.L i).take (j+1)) S.pgs.length) true 0,.row 23 1 [S.p1,S.p2,S.p3] true 0]:=by
      have:=store_el (c:=cx) (h:=[.cells 25 S.cells,.row 4 1 (marks (S.pre i++(S.L i).take j) S.pgs.length) true 0,.row 23 1 [S.p1,S.p2,S.p3] true 0]) (i:=1) (g:=0) (v:=.bool true) s4 rfl (marks_get hxt) (fun l q=>by cases q) rfl rfl
      show store? cx _ 4 (.el 1 0 1 (0+((S.L i).getD j 0).toNat) 0) _=_
      rw[Nat.zero_add,this,marks_set hx0,← snoc];rfl
     by_cases b4:(0:Int)<(j:Int)
     ·obtain⟨ja1,jd1⟩:=int_at (k:=j-1) (hP.sl [.cells 25 S.cells,.row 4 1 (marks (S.pre i++(S.L i).take j) S.pgs.length) true 0,.row 23 1 [S.p1,S.p2,S.p3] true 0]) u23 (by omega)
      have w3:=pred64 (show j<4611686018427387904 by omega) (by omega)
      by_cases b5:(S.L i).getD j 0≤(S.L i).getD (j-1) 0
      ·simp only[sc83r0,sc83r1,sc83r2,sc83r3,sc83r4,sc83r5,sc83r6,sc83r7,sc83r8,sc83r9,sc83r10,sc83r11,sc83r12,sc83r13,sc83r14,sc83l15,sc83r16,sc83l17,sc83r18,sc83,↓rwS,rwT,rwG,Nat.reduceEqDiff,Nat.reduceAdd,reduceCtorEq,Nat.reduceLT,t3,t4,t6,t46,t47,t48,t52,t53,t54,hlj,ja,jd,b1,b2,b3,b4,b5,w3,ja1,jd1,ma,md,decide_true,decide_false,bad (by omega)]
      ·simp only[sc83r0,sc83r1,sc83r2,sc83r3,sc83r4,sc83r5,sc83r6,sc83r7,sc83r8,sc83r9,sc83r10,sc83r11,sc83r12,sc83r13,sc83r14,sc83l15,sc83r16,sc83l17,sc83r18,sc83,↓rwS,rwT,rwG,Nat.reduceEqDiff,Nat.reduceAdd,reduceCtorEq,Nat.reduceLT,t3,t4,t6,t46,t47,t48,t52,t53,t54,hlj,ja,jd,b1,b2,b3,b4,b5,w3,ja1,jd1,ma,md,st,w2,decide_true,decide_false,true_and]
       refine⟨_,?_,j+1,rfl,by omega,fun k hk=>?_,nd3,?_⟩
       ·omega
       ·by_cases q:k=j
        ·rw[q];exact⟨by omega,by omega,fun _=>by omega⟩
        ·exact hok k (by omega)
       ·all_goals(first|rfl|exact⟨rfl,rfl⟩|exact⟨rfl,rfl,rfl⟩|exact⟨rfl,trivial⟩|exact trivial)
     ·simp only[sc83r0,sc83r1,sc83r2,sc83r3,sc83r4,sc83r5,sc83r6,sc83r7,sc83r8,sc83r9,sc83r10,sc83r11,sc83r12,sc83r13,sc83r14,sc83l15,sc83r16,sc83l17,sc83r18,sc83,↓rwS,rwT,rwG,Nat.reduceEqDiff,Nat.reduceAdd,reduceCtorEq,Nat.reduceLT,t3,t4,t6,t46,t47,t48,t52,t53,t54,hlj,ja,jd,b1,b2,b3,b4,ma,md,st,w2,decide_true,decide_false,true_and]
      refine⟨_,?_,j+1,rfl,by omega,fun k hk=>?_,nd3,?_⟩
      ·omega
      ·by_cases q:k=j
       ·rw[q];exact⟨by omega,by omega,fun q=>by omega⟩
       ·exact hok k (by omega)
      ·all_goals(first|rfl|exact⟨rfl,rfl⟩|exact⟨rfl,rfl,rfl⟩|exact⟨rfl,trivial⟩|exact trivial)
    ·have hjl:(S.L i).take j=S.L i:=List.take_of_length_le (by omega)
     rw[hjl]at hnd2
     simp only[sc83r0,sc83r1,sc83r2,sc83r3,sc83r4,sc83r5,sc83r6,sc83r7,sc83r8,sc83r9,sc83r10,sc83r11,sc83r12,sc83r13,sc83r14,sc83l15,sc83r16,sc83l17,sc83r18,sc83,↓rwS,rwT,rwG,Nat.reduceEqDiff,Nat.reduceAdd,reduceCtorEq,Nat.reduceLT,t3,t4,t6,t46,t47,t48,t52,t53,t54,hlj,decide_false,w1,true_and]
     refine⟨_,?_,i+1,rfl,by omega,fun k hk=>?_,?_,?_⟩
     ·omega
     ·by_cases q:k=i
      ·rw[q];exact fun a ha=>hok a (by omega)
      ·exact hinc k (by omega)
     ·rw[S.pre_succ hi3];exact hnd2
     ·rw[S.pre_succ hi3,hjl]
      all_goals(first|rfl|exact⟨rfl,rfl⟩|exact⟨rfl,rfl,rfl⟩|exact⟨rfl,trivial⟩|exact trivial)
  ·have hi3:i=3:=by omega
   subst hi3
   have hb:S.soundE=0:=Spc.soundE_t ⟨okN,hinc,hnd⟩
   simp only[sc83r0,sc83r1,sc83r2,sc83r3,sc83r4,sc83r5,sc83r6,sc83r7,sc83r8,sc83r9,sc83r10,sc83r11,sc83r12,sc83r13,sc83r14,sc83l15,sc83r16,sc83l17,sc83r18,sc83,↓rwS,rwT,rwG,Nat.reduceEqDiff,Nat.reduceAdd,reduceCtorEq,Nat.reduceLT,t3,t4,t46,t47,t48,hlt,decide_false,hb]
   exact trivial
end
end Go.Proofs
namespace Go.Ai
theorem xDraw_Z{c:Ctx} {o:Orc} {rd Q t h d r m hs ps zs} {s:SOp} {l:List (SOp×DK)} {v:AV}:xDraw c o rd Q ((s,.Z)::l) m hs ps (v::zs) t h d r=xDraw c o rd Q l m hs ps zs (put s.dst v t) h d r:=(rfl)
end Go.Ai
namespace Go.Proofs
open Go Go.Ai
theorem Spc.pre3(S:Spc):S.pre 3=S.fr++S.fs++S.gn:=by unfold Spc.pre;simp
theorem sl_own{h e sz j g n xs} (H:Own h e sz (.sl j g sz 0 n) xs):∃ ex,hget h j=.row e sz xs ex g∧n=xs.length:=by
 cases H with
 |row hr=>exact⟨_,hr,rfl⟩
section
variable {o:Orc} (ho:FreeT o)
include ho
end
end Go.Proofs
namespace Go.Ai
theorem store_cell{c:Ctx} {h:List Ob} {ty e:TypeId} {off i:Nat} {cs:List AV} {v:AV} (hs:sizeOf? c ty=some 1) (hi:hget h i=.cells e cs) (hv:v.cells?=some [v]) (ho:off<cs.length) :
  store? c h ty (.ptr i off) v=.ws undefA i (.cells e (cs.set off v)):=by
 unfold store?
 simp only[hs]
 unfold storePtr
 simp only[hv,hi,List.length_cons,List.length_nil,Nat.zero_add,Nat.beq_refl,cond]
 unfold overK
 rw[Nat.ble_eq_true_of_le (show off + [v].length≤cs.length by simp;omega)]
 simp only[cond,lnf_eq,List.length_cons,List.length_nil,Nat.zero_add]
 congr 2
 rw[List.set_eq_take_append_cons_drop,if_pos ho];rfl
theorem Co1.one_cell{h v c sz xs} (H:Co1 h v c) (hs:IsS sz c xs):v.cells?=some [v]:=by
 cases hs with
 |nil=>cases H with|p=>rfl
 |vec=>cases H<;>rfl
 |own=>cases H with|own=>rfl
theorem Co1.hset{h v c i o} (H:Co1 h v c) (hf:Ai.flat (hget h i)=false):Co1 (hset h i o) v c:=by
 refine H.keep fun j hj=>?_
 have hj2:=H.flat j hj
 have hne:j ≠ i:=by rintro rfl;rw[hj2]at hf;cases hf
 by_cases q:i<h.length
 ·rw[hget_hset _ _ _ _ q,if_neg hne]
 ·have:Ai.hset h i o=h:=by
   rw[hset_eq,List.set_eq_of_length_le (by omega)]
  rw[this]
end Go.Ai
namespace Go.Proofs
open Go Go.Ai
def HasIns(o:Orc):Prop:=∀ args h,o 323 args h=insO cx 3 1 8 args h
section
variable {o:Orc} (ho:FreeT o) (hI:HasIns o)
include ho hI
end
def Spc.cvs(S:Spc):List CV:=[.own 62 10 S.pgs,clV 3 1 (.pv S.p1) (ints S.fr),clV 3 1 (.pv S.p2) (ints S.fs),clV 3 1 (.pv S.p3) (ints S.gn),.pv (.int .i64 S.ver),.pv (.int .i64 S.tr)]
theorem hget_cells_lt{h i e cs} (H:hget h i=.cells e cs):i<h.length:=by
 rw[hget_eq]at H
 by_cases q:i<h.length
 ·exact q
 ·rw[List.getElem?_eq_none (by omega)]at H;cases H
section
variable {o:Orc} (ho:FreeT o)
include ho
end
def FU(h h':List Ob):Prop:=h.length≤h'.length∧∀ j,0<j→j<h.length→flat (hget h j)=true→flat (hget h' j)=true
theorem FU.refl(h):FU h h:=⟨Nat.le_refl _,fun _ _ _ q=>q⟩
theorem FU.trans{a b c} (p:FU a b) (q:FU b c):FU a c:=⟨Nat.le_trans p.1 q.1,fun j h1 h2 h3=>q.2 j h1 (Nat.lt_of_lt_of_le h2 p.1) (p.2 j h1 h2 h3)⟩
theorem FU.ext(h e:List Ob):FU h (h++e):=⟨by rw[List.length_append];omega,fun j _ h2 h3=>by rw[hget_appL _ _ h2];exact h3⟩
theorem FU.set(h:List Ob) (o):FU h (hset h 0 o):=⟨by rw[hset_length];exact Nat.le_refl _,fun j h1 h2 h3=>by
 rw[hget_hset _ _ _ _ (by omega),if_neg (by omega)];exact h3⟩
def zeroPage:PV:=.agg [.int .i64 0,.int .i64 0,.int .i64 0,.int .i64 0,.int .i64 0,.bool false,.nils,.int .i64 0,.str [],.nils]
def zeroSpace:PV:=.agg [.nils,.nils,.nils,.nils,.int .i64 0,.int .i64 0]
theorem z25:zero? cx 25=some zeroSpace:=by kernel_rfl
section
variable {o:Orc} (ho:FreeT o)
include ho
end
structure WK (h:List Ob) (e:TypeId) (cs:List AV) (cvs:List CV):Prop where
 at0:hget h 0=.cells e cs
 co:L2 (Co1 h) cs cvs
theorem l2_set{α β:Type} {R:α→β→Prop} {a:α} {b:β} (hab:R a b):∀ {l m} (k:Nat),L2 R l m→L2 R (l.set k a) (m.set k b)
 |_,_,_,.nil=>.nil
 |_,_,0,.cons _ H=>.cons hab H
 |_,_,k+1,.cons h H=>.cons h (l2_set hab k H)
theorem WK.lt{h e cs cvs} (W:WK h e cs cvs):0<h.length:=hget_cells_lt W.at0
theorem WK.nf{h e cs cvs} (W:WK h e cs cvs):flat (hget h 0)=false:=by rw[W.at0];rfl
theorem WK.ext{h e cs cvs} (W:WK h e cs cvs) (x:List Ob):WK (h++x) e cs cvs:=⟨(hget_appL x 0 W.lt).trans W.at0,W.co.ext1 x⟩
theorem WK.put{h e cs cvs v c} (W:WK h e cs cvs) (k:Nat) (H:Co1 h v c):WK (hset h 0 (.cells e (cs.set k v))) e (cs.set k v) (cvs.set k c):=
 ⟨by rw[hget_hset _ _ _ _ W.lt,if_pos rfl],l2_set (R:=Co1 _) (H.hset W.nf) k (W.co.imp fun a b q=>q.hset W.nf)⟩
theorem WK.st{h e cs cvs v c ty sz xs} (W:WK h e cs cvs) (k:Nat) (H:Co1 h v c) (hc:IsS sz c xs) (hs:sizeOf? cx ty=some 1) (hk:k<cs.length):store? cx h ty (.ptr 0 k) v=.ws undefA 0 (.cells e (cs.set k v)):=
 store_cell (c:=cx) (off:=k) hs W.at0 (H.one_cell hc) hk
theorem WK.ld{h e cs cvs x ty k} (W:WK h e cs cvs) (ha:aggT? cx ty=some false) (hx:cs[k]?=some x):load? cx h ty (.ptr 0 k)=some x:=load_one ha W.at0 hx
section
variable {o:Orc} (ho:FreeT o)
include ho
variable (hI:HasIns o)
include hI
end
theorem co1_int{h v k n} (H:Co1 h v (.pv (.int k n))):v=.p (.int k n):=by cases H;rfl
section
variable {o:Orc} (ho:FreeT o)
include ho
end
end Go.Proofs

/- What is proved: contracts of Sound, of opening a space. Conditions: as before. -/
import Derived.Test.YtepjcfcfpjhpgaaGreatDoorSC04
import Derived.Test.YtepjcfcfpjhpgaaGreatDoorSC01
set_option linter.all false
set_option maxRecDepth 100000
namespace Go.Proofs
open Go Go.Ai
theorem take_snoc{l:List Int} {i:Nat} (hi:i<l.length):l.take (i+1)=l.take i++[l.getD i 0]:=by
 rw[List.take_add_one,List.getElem?_eq_getElem hi]
 simp [List.getD,hi]
inductive SlP (sz:Nat):PV→List PV→Prop
 |nil:SlP sz .nils []
 |vec (xs):SlP sz (.vec sz xs) xs
theorem SlP.sl{sz p xs} (H:SlP sz p xs) (h:List Ob):Sl h sz (.p p) xs:=by
 cases H with
 |nil=>exact .nil
 |vec=>exact .vec _
theorem SlP.is{sz p xs} (H:SlP sz p xs):IsS sz (.pv p) xs:=by
 cases H with
 |nil=>exact .nil
 |vec=>exact .vec _
theorem SlP.eok{sz p xs} (H:SlP sz p xs):EOk cx 23 p:=by
 cases H with
 |nil=>
  refine⟨?_,?_⟩
  ·unfold loadC;rw[a23]
  ·unfold part?;rw[a23];rfl
 |vec=>
  refine⟨?_,?_⟩
  ·unfold loadC;rw[a23]
  ·unfold part?;rw[a23];rfl
theorem store_el{c:Ctx} {h:List Ob} {ty:TypeId} {i g k:Nat} {e:TypeId} {xs:List PV} {ex:Bool} {v x:PV} (hs:sizeOf? c ty=some 1) (hr:hget h i=.row e 1 xs ex g) (hk:xs[k]?=some x) (hx:∀ l,x ≠ .agg l) (hx1:x.cells=[x]) (hv:v.cells=[v]) :
  store? c h ty (.el i g 1 k 0) (.p v)=.wh undefA (hset h i (.row e 1 (xs.set k v) ex g)):=by
 unfold store?
 simp only[hs]
 unfold storeEl
 simp only[pure1,hv,List.length_singleton,Nat.beq_refl,cond,hr,Bool.and_self,pget_eq,hk,hx1]
 unfold overK
 simp only[List.length_singleton,Nat.zero_add]
 rw[Nat.ble_eq_true_of_le (Nat.le_refl 1)]
 simp only[cond,lnf_eq,List.take_zero,List.nil_append,List.drop_one,List.tail_cons,List.append_nil]
 have:reElem x [v]=some v:=by
  unfold reElem
  cases x<;>first|rfl|exact absurd rfl (hx _)
 rw[this]
 simp only[lnf_eq,hsetK_eq]
def marks(vis:List Int) (n:Nat):List PV:=(List.range n).map fun(k:Nat)=>.bool (decide ((k:Int)∈vis))
theorem marks_len(vis n):(marks vis n).length=n:=by unfold marks;simp
theorem marks_nil(n):List.replicate n (PV.bool false)=marks [] n:=by
 unfold marks
 apply List.ext_getElem?
 intro i
 rw[List.getElem?_replicate,List.getElem?_map]
 by_cases h:i<n
 ·rw[if_pos h,List.getElem?_range h];simp
 ·rw[if_neg h,List.getElem?_eq_none (by simp;omega)];rfl
theorem marks_get{vis n k} (h:k<n):(marks vis n)[k]?=some (.bool (decide ((k:Int)∈vis))):=by
 unfold marks
 rw[List.getElem?_map,List.getElem?_range h];rfl
theorem marks_set{vis n} {x:Int} (h0:0≤x):(marks vis n).set x.toNat (.bool true)=marks (vis++[x]) n:=by
 apply List.ext_getElem?
 intro i
 rw[List.getElem?_set,marks_len]
 by_cases hi:i<n
 ·rw[marks_get hi,marks_get hi]
  by_cases q:x.toNat=i
  ·rw[if_pos q,if_pos (by omega)]
   have:(i:Int)=x:=by omega
   rw[this];simp
  ·rw[if_neg q]
   have:(i:Int) ≠ x:=by omega
   congr 2
   simp [this]
 ·rw[List.getElem?_eq_none (l:=marks vis n) (by rw[marks_len];omega),List.getElem?_eq_none (l:=marks (vis++[x]) n) (by rw[marks_len];omega)]
  by_cases q:x.toNat=i
  ·rw[if_pos q,if_neg (by omega)]
  ·rw[if_neg q]
theorem make_bools{h:List Ob} {n:Nat} (hn:n<1000000):makeSlice? cx h 150 (.p (.int .i64 (n:Int))) (.p (.int .i64 (n:Int)))=.wn (.sl h.length 0 1 0 n) (.row 4 1 (marks [] n) true 0):=by
 obtain⟨i,hi,hs,hb⟩:∃ i,cx.info 4=some i∧i.size=1∧i.bytes=1:=by
  cases hq:cx.info 4 with
  |none=>
   have:(cx.info 4).isSome=true:=by kernel_rfl
   rw[hq]at this;cases this
  |some i=>
   have h1:(cx.info 4).map (fun i=>(i.size,i.bytes))=some (1,1):=by kernel_rfl
   rw[hq]at h1
   have:(i.size,i.bytes)=(1,1):=Option.some.inj h1
   exact⟨i,rfl,congrArg Prod.fst this,congrArg Prod.snd this⟩
 unfold makeSlice?
 simp only[u150]
 unfold onII onI
 simp only[hi,z4,a4]
 have:(!ltI (n:Int) 0 && !ltI (n:Int) (n:Int) && !ltI 140737488355328 (Int.mul i.bytes (n:Int))&&Nat.ble 1 i.bytes&&Nat.ble 1 i.size&&fitsA false i.size (.bool false))=true:=by
  rw[hs,hb]
  simp only[ltI_eq]
  rw[decide_eq_false (show ¬((n:Int)<0) by omega),decide_eq_false (show ¬((n:Int)<(n:Int)) by omega),decide_eq_false (show ¬(140737488355328<Int.mul ((1:Nat):Int) (n:Int)) by show ¬(140737488355328<((1:Nat):Int)*(n:Int));omega)]
  rfl
 rw[this]
 simp only[cond,hs]
 unfold Ai.newRow
 simp only[forceN_eq,lnf_eq,Int.toNat_natCast,marks_nil]
structure Spc where
 p0:PV
 p1:PV
 p2:PV
 p3:PV
 pgs:List PV
 fr:List Int
 fs:List Int
 gn:List Int
 ver:Int
 tr:Int
structure SpcOk (S:Spc):Prop where
 h0:SlP 10 S.p0 S.pgs
 h1:SlP 1 S.p1 (ints S.fr)
 h2:SlP 1 S.p2 (ints S.fs)
 h3:SlP 1 S.p3 (ints S.gn)
 l0:S.pgs.length<100000
 l1:S.fr.length<100000
 l2:S.fs.length<100000
 l3:S.gn.length<100000
def Spc.v(S:Spc):PV:=.agg [S.p0,S.p1,S.p2,S.p3,.int .i64 S.ver,.int .i64 S.tr]
def Spc.cells(S:Spc):List AV:=[.p S.p0,.p S.p1,.p S.p2,.p S.p3,.p (.int .i64 S.ver),.p (.int .i64 S.tr)]
def Spc.L(S:Spc) (i:Nat):List Int:=[S.fr,S.fs,S.gn].getD i []
def Spc.P(S:Spc) (i:Nat):PV:=[S.p1,S.p2,S.p3].getD i .nilp
def Spc.pre(S:Spc) (i:Nat):List Int:=([S.fr,S.fs,S.gn].take i).flatten
theorem Spc.pre_succ(S:Spc) {i:Nat} (hi:i<3):S.pre (i+1)=S.pre i++S.L i:=by
 unfold Spc.pre Spc.L
 match i,hi with
 |0,_=>simp
 |1,_=>simp
 |2,_=>simp
theorem SpcOk.lP{S:Spc} (O:SpcOk S) {i:Nat} (hi:i<3):SlP 1 (S.P i) (ints (S.L i))∧(S.L i).length<100000:=by
 match i,hi with
 |0,_=>exact⟨O.h1,O.l1⟩
 |1,_=>exact⟨O.h2,O.l2⟩
 |2,_=>exact⟨O.h3,O.l3⟩
def Spc.okN(S:Spc):Prop:=2≤S.pgs.length∧S.pgs.length≤4096∧0≤S.ver∧S.ver≤1099511627776∧0≤S.tr∧S.tr≤255
def Spc.Sound(S:Spc):Prop:=S.okN∧(∀ i,i<3→IncP (S.L i) (S.pgs.length:Nat))∧(S.pre 3).Nodup
noncomputable def Spc.soundE(S:Spc):Int:=@ite _ S.Sound (Classical.propDecidable _) 0 2
theorem Spc.soundE_t{S:Spc} (h:S.Sound):S.soundE=0:=@if_pos _ (Classical.propDecidable _) h _ _ _
theorem Spc.soundE_f{S:Spc} (h:¬S.Sound):S.soundE=2:=@if_neg _ (Classical.propDecidable _) h _ _ _
section
variable {o:Orc} (ho:FreeT o)
include ho
theorem sound18{S:Spc} (O:SpcOk S):Ct cx o (.fn 83 [.p S.v]) [] (fun e _=>e=.ret (.p (.int .i64 S.soundE))):=by
 refine ct83 (ho _ _ _ (by decide) (by decide)) rfl ?_
 have hbox:∀ hh:List Ob,boxW hh 25 (.p S.v)=.wn (.ptr hh.length 0) (.cells 25 S.cells):=fun hh=>rfl
 have fa0:fieldAddr? cx 25 (.ptr 0 0) 0=some (.ptr 0 0):=fieldAddr_ptr (m:=0) f25_0 s22
 have fa1:fieldAddr? cx 25 (.ptr 0 0) 1=some (.ptr 0 1):=fieldAddr_ptr (m:=0) f25_1 s23
 have fa2:fieldAddr? cx 25 (.ptr 0 0) 2=some (.ptr 0 2):=fieldAddr_ptr (m:=0) f25_2 s23
 have fa3:fieldAddr? cx 25 (.ptr 0 0) 3=some (.ptr 0 3):=fieldAddr_ptr (m:=0) f25_3 s23
 have fa4:fieldAddr? cx 25 (.ptr 0 0) 4=some (.ptr 0 4):=fieldAddr_ptr (m:=0) f25_4 s3
 have fa5:fieldAddr? cx 25 (.ptr 0 0) 5=some (.ptr 0 5):=fieldAddr_ptr (m:=0) f25_5 s3
 have ld0:∀ l:List Ob,load? cx (.cells 25 S.cells::l) 22 (.ptr 0 0)=some (.p S.p0):=fun l=>load_one a22 rfl rfl
 have ld1:∀ l:List Ob,load? cx (.cells 25 S.cells::l) 23 (.ptr 0 1)=some (.p S.p1):=fun l=>load_one a23 rfl rfl
 have ld2:∀ l:List Ob,load? cx (.cells 25 S.cells::l) 23 (.ptr 0 2)=some (.p S.p2):=fun l=>load_one a23 rfl rfl
 have ld3:∀ l:List Ob,load? cx (.cells 25 S.cells::l) 23 (.ptr 0 3)=some (.p S.p3):=fun l=>load_one a23 rfl rfl
 have ld4:∀ l:List Ob,load? cx (.cells 25 S.cells::l) 3 (.ptr 0 4)=some (.p (.int .i64 S.ver)):=fun l=>load_one a3 rfl rfl
 have ld5:∀ l:List Ob,load? cx (.cells 25 S.cells::l) 3 (.ptr 0 5)=some (.p (.int .i64 S.tr)):=fun l=>load_one a3 rfl rfl
 have len0:∀ hh:List Ob,lenW cx hh 22 (.p S.p0)=_:=fun hh=>(O.h0.sl hh).len u22
 by_cases c1:((S.pgs.length:Nat):Int)<2
 ·have hb:S.soundE=2:=Spc.soundE_f fun q=>by have:=q.1.1;omega
  simp only[sc83r0,sc83r1,sc83r2,sc83r3,sc83r4,sc83r5,sc83r6,sc83r7,sc83r8,sc83r9,sc83r10,sc83r11,sc83r12,sc83r13,sc83r14,sc83r16,sc83r18,sc83,↓rwS,rwT,rwG,Nat.reduceEqDiff,Nat.reduceAdd,reduceCtorEq,Nat.reduceLT,hbox,List.nil_append,List.length_nil,fa0,ld0,len0,c1,decide_true,hb]
 by_cases c2:(4096:Int)<((S.pgs.length:Nat):Int)
 ·have hb:S.soundE=2:=Spc.soundE_f fun q=>by have:=q.1.2.1;omega
  simp only[sc83r0,sc83r1,sc83r2,sc83r3,sc83r4,sc83r5,sc83r6,sc83r7,sc83r8,sc83r9,sc83r10,sc83r11,sc83r12,sc83r13,sc83r14,sc83r16,sc83r18,sc83,↓rwS,rwT,rwG,Nat.reduceEqDiff,Nat.reduceAdd,reduceCtorEq,Nat.reduceLT,hbox,List.nil_append,List.length_nil,fa0,ld0,len0,c1,c2,decide_true,decide_false,hb]
 by_cases c3:S.ver<0
 ·have hb:S.soundE=2:=Spc.soundE_f fun q=>by have:=q.1.2.2.1;omega
  simp only[sc83r0,sc83r1,sc83r2,sc83r3,sc83r4,sc83r5,sc83r6,sc83r7,sc83r8,sc83r9,sc83r10,sc83r11,sc83r12,sc83r13,sc83r14,sc83r16,sc83r18,sc83,↓rwS,rwT,rwG,Nat.reduceEqDiff,Nat.reduceAdd,reduceCtorEq,Nat.reduceLT,hbox,List.nil_append,List.length_nil,fa0,ld0,len0,fa4,ld4,c1,c2,c3,decide_true,decide_false,hb]
 by_cases c4:1099511627776<S.ver
 ·have hb:S.soundE=2:=Spc.soundE_f fun q=>by have:=q.1.2.2.2.1;omega
  simp only[sc83r0,sc83r1,sc83r2,sc83r3,sc83r4,sc83r5,sc83r6,sc83r7,sc83r8,sc83r9,sc83r10,sc83r11,sc83r12,sc83r13,sc83r14,sc83r16,sc83r18,sc83,↓rwS,rwT,rwG,Nat.reduceEqDiff,Nat.reduceAdd,reduceCtorEq,Nat.reduceLT,hbox,List.nil_append,List.length_nil,fa0,ld0,len0,fa4,ld4,c1,c2,c3,c4,decide_true,decide_false,hb]
 by_cases c5:S.tr<0
 ·have hb:S.soundE=2:=Spc.soundE_f fun q=>by have:=q.1.2.2.2.2.1;omega
  simp only[sc83r0,sc83r1,sc83r2,sc83r3,sc83r4,sc83r5,sc83r6,sc83r7,sc83r8,sc83r9,sc83r10,sc83r11,sc83r12,sc83r13,sc83r14,sc83r16,sc83r18,sc83,↓rwS,rwT,rwG,Nat.reduceEqDiff,Nat.reduceAdd,reduceCtorEq,Nat.reduceLT,hbox,List.nil_append,List.length_nil,fa0,ld0,len0,fa4,ld4,fa5,ld5,c1,c2,c3,c4,c5,decide_true,decide_false,hb]
 by_cases c6:255<S.tr
 ·have hb:S.soundE=2:=Spc.soundE_f fun q=>by have:=q.1.2.2.2.2.2;omega
  simp only[sc83r0,sc83r1,sc83r2,sc83r3,sc83r4,sc83r5,sc83r6,sc83r7,sc83r8,sc83r9,sc83r10,sc83r11,sc83r12,sc83r13,sc83r14,sc83r16,sc83r18,sc83,↓rwS,rwT,rwG,Nat.reduceEqDiff,Nat.reduceAdd,reduceCtorEq,Nat.reduceLT,hbox,List.nil_append,List.length_nil,fa0,ld0,len0,fa4,ld4,fa5,ld5,c1,c2,c3,c4,c5,c6,decide_true,decide_false,hb]
 have okN:S.okN:=⟨by omega,by omega,by omega,by omega,by omega,by omega⟩
 have mk:∀ hh:List Ob,makeSlice? cx hh 150 (.p (.int .i64 ((S.pgs.length:Nat):Int))) (.p (.int .i64 ((S.pgs.length:Nat):Int)))=_:=fun hh=>make_bools (by omega)
 have bs:∀ hh:List Ob,buildSlice? cx hh 258 3 [(0,.p S.p1),(1,.p S.p2),(2,.p S.p3)]=.wh (.sl hh.length 0 1 0 3) (hh++[.row 23 1 [S.p1,S.p2,S.p3] true 0]):=fun hh=>by
  have e1:fitsA false 1 S.p1=true:=by have:=O.h1;generalize S.p1=p at this;generalize ints S.fr=xs at this;cases this<;>rfl
  have e2:fitsA false 1 S.p2=true:=by have:=O.h2;generalize S.p2=p at this;generalize ints S.fs=xs at this;cases this<;>rfl
  have e3:fitsA false 1 S.p3=true:=by have:=O.h3;generalize S.p3=p at this;generalize ints S.gn=xs at this;cases this<;>rfl
  unfold buildSlice?
  simp only[u258,s23,a23,pureParts,pure1,zeros?,z23]
  have:(Nat.ble (3*(0+1)) 16777216&&allFit2 false (0+1) [(0,S.p1),(1,S.p2),(2,S.p3)]&&allFit false (0+1) [PV.nils,PV.nils,PV.nils])=true:=by
   simp only[allFit2,e1,e2,e3,cond];rfl
  simp only[List.replicate]at this ⊢
  rw[this]
  simp only[cond,setAll,List.length_cons,List.length_nil,lnf_eq,List.set]
  show newRowH hh 23 1 [S.p1,S.p2,S.p3] true 3=_
  unfold newRowH
  simp only[forceN_eq,lnf_eq]
 have hS:∀ vis,Sl [.cells 25 S.cells,.row 4 1 (marks vis S.pgs.length) true 0,.row 23 1 [S.p1,S.p2,S.p3] true 0] 1 (.sl 2 0 1 0 3) [S.p1,S.p2,S.p3]:=fun vis=>.sl (xs:=[S.p1,S.p2,S.p3]) rfl rfl
 have hM:∀ vis,Sl [.cells 25 S.cells,.row 4 1 (marks vis S.pgs.length) true 0,.row 23 1 [S.p1,S.p2,S.p3] true 0] 1 (.sl 1 0 1 0 S.pgs.length) (marks vis S.pgs.length):=fun vis=>.sl (xs:=marks vis S.pgs.length) rfl (by
  have:=sub_all (marks vis S.pgs.length)
  rw[marks_len]at this;exact this)
 simp only[sc83r0,sc83r1,sc83r2,sc83r3,sc83r4,sc83r5,sc83r6,sc83r7,sc83r8,sc83r9,sc83r10,sc83r11,sc83r12,sc83r13,sc83r14,sc83r16,sc83r18,sc83,↓rwS,rwT,rwG,Nat.reduceEqDiff,Nat.reduceAdd,reduceCtorEq,Nat.reduceLT,hbox,List.cons_append,List.nil_append,List.length_cons,List.length_nil,fa0,ld0,len0,fa4,ld4,fa5,ld5,c1,c2,c3,c4,c5,c6,decide_false,mk,fa1,fa2,fa3,ld1,ld2,ld3,bs]
 refine xC_loop (fun m t h' d r => ∃ i : Nat, m = 3 - i ∧ i ≤ 3 ∧ (∀ k, k < i → IncP (S.L k) (S.pgs.length : Nat)) ∧ (S.pre i).Nodup ∧ d = [] ∧ r = none ∧ t.get 3 = .p (.int .i64 (S.pgs.length : Nat)) ∧ t.get 4 = .sl 1 0 1 0 S.pgs.length ∧ t.get 46 = .sl 2 0 1 0 3 ∧ t.get 47 = .p (.int .i64 ((3 : Nat) : Int)) ∧ t.get 48 = .p (.int .i64 (i : Int)) ∧
   h'=[.cells 25 S.cells,.row 4 1 (marks (S.pre i) S.pgs.length) true 0,.row 23 1 [S.p1,S.p2,S.p3] true 0]) 3 ?_ ?_
 ·refine⟨0,rfl,by omega,fun k hk=>by omega,List.nodup_nil,rfl,rfl,?_⟩
  simp only[↓rwA,rwB,rwG,Nat.reduceEqDiff,Nat.reduceAdd,reduceCtorEq,Nat.reduceLT,true_and]
  all_goals(first|rfl|exact⟨rfl,rfl⟩|exact⟨rfl,rfl,rfl⟩|exact⟨rfl,trivial⟩|exact trivial)
 ·rintro m t h' d r ⟨i,rfl,hi,hinc,hnd,rfl,rfl,t3,t4,t46,t47,t48,rfl⟩
  have w1:=one64 (show i<4611686018427387904 by omega)
  by_cases hlt:(i:Int)<((3:Nat):Int)
  ·have hi3:i<3:=by omega
   obtain⟨hP,hLl⟩:=O.lP hi3
   have ia:indexAddr? cx 258 (.sl 2 0 1 0 3) (.p (.int .i64 (i:Int)))=some (rdS (.sl 2 0 1 0 3) i):=by
    rw[(hS []).at (sz:=0) u258 s23 (by omega) (by simp;omega),Int.toNat_natCast]
   have ld:∀ vis,load? cx [.cells 25 S.cells,.row 4 1 (marks vis S.pgs.length) true 0,.row 23 1 [S.p1,S.p2,S.p3] true 0] 23 (rdS (.sl 2 0 1 0 3) i)=some (.p (S.P i)):=fun vis=>by
    have e1:[S.p1,S.p2,S.p3].getD i .nilp=S.P i:=rfl
    rw[(hS vis).load (c:=cx) (by simp;omega) (by rw[e1];exact hP.eok),e1]
   simp only[sc83r0,sc83r1,sc83r2,sc83r3,sc83r4,sc83r5,sc83r6,sc83r7,sc83r8,sc83r9,sc83r10,sc83r11,sc83r12,sc83r13,sc83r14,sc83r16,sc83r18,sc83,sc83l17,↓rwS,rwT,rwG,Nat.reduceEqDiff,Nat.reduceAdd,reduceCtorEq,Nat.reduceLT,t3,t4,t46,t47,t48,hlt,decide_true,ia,ld,(hP.sl _).len u23,ints_length]
   refine xC_loop (fun m t h' d r => ∃ j : Nat, m = (S.L i).length - j ∧ j ≤ (S.L i).length ∧ (∀ k, k < j → 2 ≤ (S.L i).getD k 0 ∧ (S.L i).getD k 0 < (S.pgs.length : Nat) ∧ (0 < k → (S.L i).getD (k - 1) 0 < (S.L i).getD k 0)) ∧ (S.pre i ++ (S.L i).take j).Nodup ∧ d = [] ∧ r = none ∧
    t.get 3=.p (.int .i64 (S.pgs.length:Nat))∧t.get 4=.sl 1 0 1 0 S.pgs.length∧t.get 6=.p (S.P i)∧t.get 46=.sl 2 0 1 0 3∧t.get 47=.p (.int .i64 ((3:Nat):Int))∧t.get 48=.p (.int .i64 (i:Int))∧t.get 52=.p (S.P i)∧t.get 53=.p (.int .i64 ((S.L i).length:Nat))∧t.get 54=.p (.int .i64 (j:Int)) ∧
    h'=[.cells 25 S.cells,.row 4 1 (marks (S.pre i++(S.L i).take j) S.pgs.length) true 0,.row 23 1 [S.p1,S.p2,S.p3] true 0]) (S.L i).length ?_ ?_
   ·refine⟨0,rfl,by omega,fun k hk=>by omega,by simpa using hnd,rfl,rfl,?_⟩
    simp only[↓rwA,rwB,rwG,Nat.reduceEqDiff,Nat.reduceAdd,reduceCtorEq,Nat.reduceLT,true_and,t3,t4,t46,t47,t48,List.take_zero,List.append_nil]
    all_goals(first|rfl|exact⟨rfl,rfl⟩|exact⟨rfl,rfl,rfl⟩|exact⟨rfl,trivial⟩|exact trivial)
   ·rintro m t h' d r ⟨j,rfl,hj,hok,hnd2,rfl,rfl,t3,t4,t6,t46,t47,t48,t52,t53,t54,rfl⟩
    have w2:=one64 (show j<4611686018427387904 by omega)
    by_cases hlj:(j:Int)<(((S.L i).length:Nat):Int)
    ·have hjl:j<(S.L i).length:=by omega
     obtain⟨ja,jd⟩:=int_at (k:=j) (hP.sl [.cells 25 S.cells,.row 4 1 (marks (S.pre i++(S.L i).take j) S.pgs.length) true 0,.row 23 1 [S.p1,S.p2,S.p3] true 0]) u23 hjl
     have bad:¬(2≤(S.L i).getD j 0∧(S.L i).getD j 0<(S.pgs.length:Nat)∧(0<j→(S.L i).getD (j-1) 0<(S.L i).getD j 0))→S.soundE=2:=fun q=>Spc.soundE_f fun hs=>q (hs.2.1 i hi3 j hjl)
     by_cases b1:(S.L i).getD j 0<2
     ·simp only[sc83r0,sc83r1,sc83r2,sc83r3,sc83r4,sc83r5,sc83r6,sc83r7,sc83r8,sc83r9,sc83r10,sc83r11,sc83r12,sc83r13,sc83r14,sc83l15,sc83r16,sc83l17,sc83r18,sc83,↓rwS,rwT,rwG,Nat.reduceEqDiff,Nat.reduceAdd,reduceCtorEq,Nat.reduceLT,t3,t4,t6,t46,t47,t48,t52,t53,t54,hlj,ja,jd,b1,decide_true,bad (by omega)]
     by_cases b2:((S.pgs.length:Nat):Int)≤(S.L i).getD j 0
     ·simp only[sc83r0,sc83r1,sc83r2,sc83r3,sc83r4,sc83r5,sc83r6,sc83r7,sc83r8,sc83r9,sc83r10,sc83r11,sc83r12,sc83r13,sc83r14,sc83l15,sc83r16,sc83l17,sc83r18,sc83,↓rwS,rwT,rwG,Nat.reduceEqDiff,Nat.reduceAdd,reduceCtorEq,Nat.reduceLT,t3,t4,t6,t46,t47,t48,t52,t53,t54,hlj,ja,jd,b1,b2,decide_true,decide_false,bad (by omega)]
     have hx0:0≤(S.L i).getD j 0:=by omega
     have hxn:(S.L i).getD j 0<((S.pgs.length:Nat):Int):=by omega
     have hxt:((S.L i).getD j 0).toNat<S.pgs.length:=by omega
     have hxc:(((S.L i).getD j 0).toNat:Int)=(S.L i).getD j 0:=by omega
     have ma:indexAddr? cx 150 (.sl 1 0 1 0 S.pgs.length) (.p (.int .i64 ((S.L i).getD j 0)))=some (rdS (.sl 1 0 1 0 S.pgs.length) ((S.L i).getD j 0).toNat):=(hM []).at (sz:=0) u150 s4 hx0 (by rw[marks_len];exact hxn)
     have md:load? cx [.cells 25 S.cells,.row 4 1 (marks (S.pre i++(S.L i).take j) S.pgs.length) true 0,.row 23 1 [S.p1,S.p2,S.p3] true 0] 4 (rdS (.sl 1 0 1 0 S.pgs.length) ((S.L i).getD j 0).toNat)=some (.p (.bool (decide ((S.L i).getD j 0∈S.pre i++(S.L i).take j)))):=by
      have e1:(marks (S.pre i++(S.L i).take j) S.pgs.length).getD ((S.L i).getD j 0).toNat .nilp=.bool (decide ((S.L i).getD j 0∈S.pre i++(S.L i).take j)):=by
       rw[List.getD,marks_get hxt,hxc];rfl
      rw[(hM _).load (c:=cx) (by rw[marks_len];exact hxt) (by rw[e1];exact eok_bool a4),e1]
     have snoc:S.pre i++(S.L i).take (j+1)=(S.pre i++(S.L i).take j)++[(S.L i).getD j 0]:=by rw[take_snoc hjl,List.append_assoc]
     by_cases b3:(S.L i).getD j 0∈S.pre i++(S.L i).take j
     ·have hb:S.soundE=2:=Spc.soundE_f fun hs=>by
       have h3:(S.pre (i+1)).Nodup:=by
        have:=hs.2.2
        have hsub:∀ a b,a≤b→b≤3→(S.pre b).Nodup→(S.pre a).Nodup:=by
         intro a b hab hb hn
         induction b with
         |zero=>rw[Nat.le_zero.1 hab];exact hn
         |succ b ih=>
          by_cases q:a=b+1
          ·rw[q];exact hn
          ·rw[S.pre_succ (by omega),List.nodup_append]at hn
           exact ih (by omega) (by omega) hn.1
        exact hsub (i+1) 3 (by omega) (Nat.le_refl _) this
       rw[S.pre_succ hi3,← List.take_append_drop (j+1) (S.L i),← List.append_assoc,List.nodup_append]at h3
       have h4:=h3.1
       rw[snoc,List.nodup_append]at h4
       exact h4.2.2 _ b3 _ (List.mem_singleton.2 rfl) rfl
      simp only[sc83r0,sc83r1,sc83r2,sc83r3,sc83r4,sc83r5,sc83r6,sc83r7,sc83r8,sc83r9,sc83r10,sc83r11,sc83r12,sc83r13,sc83r14,sc83l15,sc83r16,sc83l17,sc83r18,sc83,↓rwS,rwT,rwG,Nat.reduceEqDiff,Nat.reduceAdd,reduceCtorEq,Nat.reduceLT,t3,t4,t6,t46,t47,t48,t52,t53,t54,hlj,ja,jd,b1,b2,b3,ma,md,decide_true,decide_false,hb]
     have nd3:(S.pre i++(S.L i).take (j+1)).Nodup:=by
      rw[snoc,List.nodup_append]
      refine⟨hnd2,by simp,fun a ha b hb=>?_⟩
      rw[List.mem_singleton.1 hb]
      intro q;subst q;exact b3 ha
     have st:store? cx [.cells 25 S.cells,.row 4 1 (marks (S.pre i++(S.L i).take j) S.pgs.length) true 0,.row 23 1 [S.p1,S.p2,S.p3] true 0] 4 (rdS (.sl 1 0 1 0 S.pgs.length) ((S.L i).getD j 0).toNat) (.p (.bool true)) =
       .wh undefA [.cells 25 S.cells,.row 4 1 (marks (S.pre i++(S.L i).take (j+1)) S.pgs.length) true 0,.row 23 1 [S.p1,S.p2,S.p3] true 0]:=by
      have:=store_el (c:=cx) (h:=[.cells 25 S.cells,.row 4 1 (marks (S.pre i++(S.L i).take j) S.pgs.length) true 0,.row 23 1 [S.p1,S.p2,S.p3] true 0]) (i:=1) (g:=0) (v:=.bool true) s4 rfl (marks_get hxt) (fun l q=>by cases q) rfl rfl
      show store? cx _ 4 (.el 1 0 1 (0+((S.L i).getD j 0).toNat) 0) _=_
      rw[Nat.zero_add,this,marks_set hx0,← snoc];rfl
     by_cases b4:(0:Int)<(j:Int)
     ·obtain⟨ja1,jd1⟩:=int_at (k:=j-1) (hP.sl [.cells 25 S.cells,.row 4 1 (marks (S.pre i++(S.L i).take j) S.pgs.length) true 0,.row 23 1 [S.p1,S.p2,S.p3] true 0]) u23 (by omega)
      have w3:=pred64 (show j<4611686018427387904 by omega) (by omega)
      by_cases b5:(S.L i).getD j 0≤(S.L i).getD (j-1) 0
      ·simp only[sc83r0,sc83r1,sc83r2,sc83r3,sc83r4,sc83r5,sc83r6,sc83r7,sc83r8,sc83r9,sc83r10,sc83r11,sc83r12,sc83r13,sc83r14,sc83l15,sc83r16,sc83l17,sc83r18,sc83,↓rwS,rwT,rwG,Nat.reduceEqDiff,Nat.reduceAdd,reduceCtorEq,Nat.reduceLT,t3,t4,t6,t46,t47,t48,t52,t53,t54,hlj,ja,jd,b1,b2,b3,b4,b5,w3,ja1,jd1,ma,md,decide_true,decide_false,bad (by omega)]
      ·simp only[sc83r0,sc83r1,sc83r2,sc83r3,sc83r4,sc83r5,sc83r6,sc83r7,sc83r8,sc83r9,sc83r10,sc83r11,sc83r12,sc83r13,sc83r14,sc83l15,sc83r16,sc83l17,sc83r18,sc83,↓rwS,rwT,rwG,Nat.reduceEqDiff,Nat.reduceAdd,reduceCtorEq,Nat.reduceLT,t3,t4,t6,t46,t47,t48,t52,t53,t54,hlj,ja,jd,b1,b2,b3,b4,b5,w3,ja1,jd1,ma,md,st,w2,decide_true,decide_false,true_and]
       refine⟨_,?_,j+1,rfl,by omega,fun k hk=>?_,nd3,?_⟩
       ·omega
       ·by_cases q:k=j
        ·rw[q];exact⟨by omega,by omega,fun _=>by omega⟩
        ·exact hok k (by omega)
       ·all_goals(first|rfl|exact⟨rfl,rfl⟩|exact⟨rfl,rfl,rfl⟩|exact⟨rfl,trivial⟩|exact trivial)
     ·simp only[sc83r0,sc83r1,sc83r2,sc83r3,sc83r4,sc83r5,sc83r6,sc83r7,sc83r8,sc83r9,sc83r10,sc83r11,sc83r12,sc83r13,sc83r14,sc83l15,sc83r16,sc83l17,sc83r18,sc83,↓rwS,rwT,rwG,Nat.reduceEqDiff,Nat.reduceAdd,reduceCtorEq,Nat.reduceLT,t3,t4,t6,t46,t47,t48,t52,t53,t54,hlj,ja,jd,b1,b2,b3,b4,ma,md,st,w2,decide_true,decide_false,true_and]
      refine⟨_,?_,j+1,rfl,by omega,fun k hk=>?_,nd3,?_⟩
      ·omega
      ·by_cases q:k=j
       ·rw[q];exact⟨by omega,by omega,fun q=>by omega⟩
       ·exact hok k (by omega)
      ·all_goals(first|rfl|exact⟨rfl,rfl⟩|exact⟨rfl,rfl,rfl⟩|exact⟨rfl,trivial⟩|exact trivial)
    ·have hjl:(S.L i).take j=S.L i:=List.take_of_length_le (by omega)
     rw[hjl]at hnd2
     simp only[sc83r0,sc83r1,sc83r2,sc83r3,sc83r4,sc83r5,sc83r6,sc83r7,sc83r8,sc83r9,sc83r10,sc83r11,sc83r12,sc83r13,sc83r14,sc83l15,sc83r16,sc83l17,sc83r18,sc83,↓rwS,rwT,rwG,Nat.reduceEqDiff,Nat.reduceAdd,reduceCtorEq,Nat.reduceLT,t3,t4,t6,t46,t47,t48,t52,t53,t54,hlj,decide_false,w1,true_and]
     refine⟨_,?_,i+1,rfl,by omega,fun k hk=>?_,?_,?_⟩
     ·omega
     ·by_cases q:k=i
      ·rw[q];exact fun a ha=>hok a (by omega)
      ·exact hinc k (by omega)
     ·rw[S.pre_succ hi3];exact hnd2
     ·rw[S.pre_succ hi3,hjl]
      all_goals(first|rfl|exact⟨rfl,rfl⟩|exact⟨rfl,rfl,rfl⟩|exact⟨rfl,trivial⟩|exact trivial)
  ·have hi3:i=3:=by omega
   subst hi3
   have hb:S.soundE=0:=Spc.soundE_t ⟨okN,hinc,hnd⟩
   simp only[sc83r0,sc83r1,sc83r2,sc83r3,sc83r4,sc83r5,sc83r6,sc83r7,sc83r8,sc83r9,sc83r10,sc83r11,sc83r12,sc83r13,sc83r14,sc83l15,sc83r16,sc83l17,sc83r18,sc83,↓rwS,rwT,rwG,Nat.reduceEqDiff,Nat.reduceAdd,reduceCtorEq,Nat.reduceLT,t3,t4,t46,t47,t48,hlt,decide_false,hb]
   exact trivial
end
end Go.Proofs
namespace Go.Ai
theorem xC_drawZ1{c:Ctx} {o:Orc} {rd Q t h d r} {s:SOp} {k:DK} {l:List (SOp×DK)} {v:AV} {ob:Ob} (hz:isZ s.op=true) (hl:noZ l=true) (hv:opD s.op c .lf h=.wn v ob) :
  xC c o rd (.draw ((s,k)::l)) Q t h d r=xDraw c o rd Q ((s,k)::l) 0 [h++[ob]] [] [v] t (h++[ob]) d r:=by
 have:hoistS c ((s,k)::l) h=some ([v],h++[ob]):=by
  show cond (isZ s.op) (match opD s.op c .lf h with
   |.wn v ob=>(match hoistS c l (h++[ob])with|some (zs,h)=>some (v::zs,h)|none=>none)
   |_=>none) (hoistS c l h)=_
  rw[hz,hv]
  simp only[cond]
  rw[hoist_noZ hl]
 simp only[xC,this]
theorem xDraw_Z{c:Ctx} {o:Orc} {rd Q t h d r m hs ps zs} {s:SOp} {l:List (SOp×DK)} {v:AV}:xDraw c o rd Q ((s,.Z)::l) m hs ps (v::zs) t h d r=xDraw c o rd Q l m hs ps zs (put s.dst v t) h d r:=(rfl)
end Go.Ai
namespace Go.Proofs
open Go Go.Ai
noncomputable def Spc.soundB(S:Spc):Bool:=@decide S.Sound (Classical.propDecidable _)
theorem Spc.soundB_t{S:Spc} (h:S.Sound):S.soundB=true:=@decide_eq_true _ (Classical.propDecidable _) h
theorem Spc.soundB_f{S:Spc} (h:¬S.Sound):S.soundB=false:=@decide_eq_false _ (Classical.propDecidable _) h
theorem Spc.pre3(S:Spc):S.pre 3=S.fr++S.fs++S.gn:=by unfold Spc.pre;simp
theorem sl_own{h e sz j g n xs} (H:Own h e sz (.sl j g sz 0 n) xs):∃ ex,hget h j=.row e sz xs ex g∧n=xs.length:=by
 cases H with
 |row hr=>exact⟨_,hr,rfl⟩
theorem incP_mem{l:List Int} {n x:Int} (H:IncP l n) (hx:x∈l):2≤x∧x<n:=by
 obtain⟨k,hk⟩:=List.getElem?_of_mem hx
 have hl:=(List.getElem?_eq_some_iff.1 hk).1
 have:=H k hl
 have e:l.getD k 0=x:=by rw[List.getD,hk];rfl
 rw[e]at this
 exact⟨this.1,this.2.1⟩
section
variable {o:Orc} (ho:FreeT o)
include ho
theorem call110{p:PV} {l:List Int} {n:Int} {h dst t d r K Q} (H:SlP 1 p (ints l)) (hl:l.length<1000000000) :
  callW cx o dst t h d r (some (.fn 84 [.p p,.p (.int .i64 n)])) K Q=K (put dst (.p (.bool (incB l n))) t) h d r:=
 callW_ret ext84 (cs_p (f:=84) (ps:=[p,.int .i64 n]) rfl (by
  obtain⟨e,h',hr,h1,h2⟩:=inc110 ho (H.sl []) hl (n:=n)
  exact⟨e,h',hr,h2⟩))
theorem sound59{S:Spc} (O:SpcOk S):Ct cx o (.fn 40 [.p S.v]) [] (fun e _=>e=.ret (.p (.bool S.soundB))):=by
 refine ct40 (ho _ _ _ (by decide) (by decide)) rfl ?_
 have hbox:∀ hh:List Ob,boxW hh 25 (.p S.v)=.wn (.ptr hh.length 0) (.cells 25 S.cells):=fun hh=>rfl
 have fa0:fieldAddr? cx 25 (.ptr 0 0) 0=some (.ptr 0 0):=fieldAddr_ptr (m:=0) f25_0 s22
 have fa1:fieldAddr? cx 25 (.ptr 0 0) 1=some (.ptr 0 1):=fieldAddr_ptr (m:=0) f25_1 s23
 have fa2:fieldAddr? cx 25 (.ptr 0 0) 2=some (.ptr 0 2):=fieldAddr_ptr (m:=0) f25_2 s23
 have fa3:fieldAddr? cx 25 (.ptr 0 0) 3=some (.ptr 0 3):=fieldAddr_ptr (m:=0) f25_3 s23
 have fa4:fieldAddr? cx 25 (.ptr 0 0) 4=some (.ptr 0 4):=fieldAddr_ptr (m:=0) f25_4 s3
 have fa5:fieldAddr? cx 25 (.ptr 0 0) 5=some (.ptr 0 5):=fieldAddr_ptr (m:=0) f25_5 s3
 have ld0:∀ l:List Ob,load? cx (.cells 25 S.cells::l) 22 (.ptr 0 0)=some (.p S.p0):=fun l=>load_one a22 rfl rfl
 have ld1:∀ l:List Ob,load? cx (.cells 25 S.cells::l) 23 (.ptr 0 1)=some (.p S.p1):=fun l=>load_one a23 rfl rfl
 have ld2:∀ l:List Ob,load? cx (.cells 25 S.cells::l) 23 (.ptr 0 2)=some (.p S.p2):=fun l=>load_one a23 rfl rfl
 have ld3:∀ l:List Ob,load? cx (.cells 25 S.cells::l) 23 (.ptr 0 3)=some (.p S.p3):=fun l=>load_one a23 rfl rfl
 have ld4:∀ l:List Ob,load? cx (.cells 25 S.cells::l) 3 (.ptr 0 4)=some (.p (.int .i64 S.ver)):=fun l=>load_one a3 rfl rfl
 have ld5:∀ l:List Ob,load? cx (.cells 25 S.cells::l) 3 (.ptr 0 5)=some (.p (.int .i64 S.tr)):=fun l=>load_one a3 rfl rfl
 have len0:∀ hh:List Ob,lenW cx hh 22 (.p S.p0)=_:=fun hh=>(O.h0.sl hh).len u22
 have l1:=O.l1
 have l2:=O.l2
 have l3:=O.l3
 by_cases c1:((S.pgs.length:Nat):Int)<2
 ·have hb:S.soundB=false:=Spc.soundB_f fun q=>by have:=q.1.1;omega
  simp only[sc40r0,sc40r1,sc40r2,sc40r3,sc40r4,sc40r5,sc40r6,sc40r7,sc40r8,sc40r9,sc40r10,sc40r11,sc40r12,sc40r13,sc40r15,sc40,↓rwS,rwT,rwG,Nat.reduceEqDiff,Nat.reduceAdd,reduceCtorEq,Nat.reduceLT,hbox,List.nil_append,List.length_nil,fa0,ld0,len0,c1,decide_true,hb]
 by_cases c2:(4096:Int)<((S.pgs.length:Nat):Int)
 ·have hb:S.soundB=false:=Spc.soundB_f fun q=>by have:=q.1.2.1;omega
  simp only[sc40r0,sc40r1,sc40r2,sc40r3,sc40r4,sc40r5,sc40r6,sc40r7,sc40r8,sc40r9,sc40r10,sc40r11,sc40r12,sc40r13,sc40r15,sc40,↓rwS,rwT,rwG,Nat.reduceEqDiff,Nat.reduceAdd,reduceCtorEq,Nat.reduceLT,hbox,List.nil_append,List.length_nil,fa0,ld0,len0,c1,c2,decide_true,decide_false,hb]
 by_cases c3:S.ver<0
 ·have hb:S.soundB=false:=Spc.soundB_f fun q=>by have:=q.1.2.2.1;omega
  simp only[sc40r0,sc40r1,sc40r2,sc40r3,sc40r4,sc40r5,sc40r6,sc40r7,sc40r8,sc40r9,sc40r10,sc40r11,sc40r12,sc40r13,sc40r15,sc40,↓rwS,rwT,rwG,Nat.reduceEqDiff,Nat.reduceAdd,reduceCtorEq,Nat.reduceLT,hbox,List.nil_append,List.length_nil,fa0,ld0,len0,fa4,ld4,c1,c2,c3,decide_true,decide_false,hb]
 by_cases c4:1099511627776<S.ver
 ·have hb:S.soundB=false:=Spc.soundB_f fun q=>by have:=q.1.2.2.2.1;omega
  simp only[sc40r0,sc40r1,sc40r2,sc40r3,sc40r4,sc40r5,sc40r6,sc40r7,sc40r8,sc40r9,sc40r10,sc40r11,sc40r12,sc40r13,sc40r15,sc40,↓rwS,rwT,rwG,Nat.reduceEqDiff,Nat.reduceAdd,reduceCtorEq,Nat.reduceLT,hbox,List.nil_append,List.length_nil,fa0,ld0,len0,fa4,ld4,c1,c2,c3,c4,decide_true,decide_false,hb]
 by_cases c5:S.tr<0
 ·have hb:S.soundB=false:=Spc.soundB_f fun q=>by have:=q.1.2.2.2.2.1;omega
  simp only[sc40r0,sc40r1,sc40r2,sc40r3,sc40r4,sc40r5,sc40r6,sc40r7,sc40r8,sc40r9,sc40r10,sc40r11,sc40r12,sc40r13,sc40r15,sc40,↓rwS,rwT,rwG,Nat.reduceEqDiff,Nat.reduceAdd,reduceCtorEq,Nat.reduceLT,hbox,List.nil_append,List.length_nil,fa0,ld0,len0,fa4,ld4,fa5,ld5,c1,c2,c3,c4,c5,decide_true,decide_false,hb]
 by_cases c6:255<S.tr
 ·have hb:S.soundB=false:=Spc.soundB_f fun q=>by have:=q.1.2.2.2.2.2;omega
  simp only[sc40r0,sc40r1,sc40r2,sc40r3,sc40r4,sc40r5,sc40r6,sc40r7,sc40r8,sc40r9,sc40r10,sc40r11,sc40r12,sc40r13,sc40r15,sc40,↓rwS,rwT,rwG,Nat.reduceEqDiff,Nat.reduceAdd,reduceCtorEq,Nat.reduceLT,hbox,List.nil_append,List.length_nil,fa0,ld0,len0,fa4,ld4,fa5,ld5,c1,c2,c3,c4,c5,c6,decide_true,decide_false,hb]
 have okN:S.okN:=⟨by omega,by omega,by omega,by omega,by omega,by omega⟩
 have cc1:∀ {h dst t d r K Q},callW cx o dst t h d r (some (.fn 84 [.p S.p1,.p (.int .i64 (S.pgs.length:Nat))])) K Q=K (put dst (.p (.bool (incB S.fr (S.pgs.length:Nat)))) t) h d r:=call110 ho O.h1 (by omega)
 have cc2:∀ {h dst t d r K Q},callW cx o dst t h d r (some (.fn 84 [.p S.p2,.p (.int .i64 (S.pgs.length:Nat))])) K Q=K (put dst (.p (.bool (incB S.fs (S.pgs.length:Nat)))) t) h d r:=call110 ho O.h2 (by omega)
 have cc3:∀ {h dst t d r K Q},callW cx o dst t h d r (some (.fn 84 [.p S.p3,.p (.int .i64 (S.pgs.length:Nat))])) K Q=K (put dst (.p (.bool (incB S.gn (S.pgs.length:Nat)))) t) h d r:=call110 ho O.h3 (by omega)
 have bad:∀ i,i<3→¬IncP (S.L i) (S.pgs.length:Nat)→S.soundB=false:=fun i hi q=>Spc.soundB_f fun hs=>q (hs.2.1 i hi)
 by_cases d1:IncP S.fr (S.pgs.length:Nat)
 case neg=>
  simp only[sc40r0,sc40r1,sc40r2,sc40r3,sc40r4,sc40r5,sc40r6,sc40r7,sc40r8,sc40r9,sc40r10,sc40r11,sc40r12,sc40r13,sc40r15,sc40,↓rwS,rwT,rwG,Nat.reduceEqDiff,Nat.reduceAdd,reduceCtorEq,Nat.reduceLT,hbox,List.nil_append,List.length_nil,fa0,ld0,len0,fa4,ld4,fa5,ld5,c1,c2,c3,c4,c5,c6,decide_false,fa1,ld1,cc1,incB_false d1,bad 0 (by omega) d1]
 by_cases d2:IncP S.fs (S.pgs.length:Nat)
 case neg=>
  simp only[sc40r0,sc40r1,sc40r2,sc40r3,sc40r4,sc40r5,sc40r6,sc40r7,sc40r8,sc40r9,sc40r10,sc40r11,sc40r12,sc40r13,sc40r15,sc40,↓rwS,rwT,rwG,Nat.reduceEqDiff,Nat.reduceAdd,reduceCtorEq,Nat.reduceLT,hbox,List.nil_append,List.length_nil,fa0,ld0,len0,fa4,ld4,fa5,ld5,c1,c2,c3,c4,c5,c6,decide_false,fa1,ld1,cc1,incB_true d1,fa2,ld2,cc2,incB_false d2,bad 1 (by omega) d2]
 by_cases d3:IncP S.gn (S.pgs.length:Nat)
 case neg=>
  simp only[sc40r0,sc40r1,sc40r2,sc40r3,sc40r4,sc40r5,sc40r6,sc40r7,sc40r8,sc40r9,sc40r10,sc40r11,sc40r12,sc40r13,sc40r15,sc40,↓rwS,rwT,rwG,Nat.reduceEqDiff,Nat.reduceAdd,reduceCtorEq,Nat.reduceLT,hbox,List.nil_append,List.length_nil,fa0,ld0,len0,fa4,ld4,fa5,ld5,c1,c2,c3,c4,c5,c6,decide_false,fa1,ld1,cc1,incB_true d1,fa2,ld2,cc2,incB_true d2,fa3,ld3,cc3,incB_false d3,bad 2 (by omega) d3]
 have hinc:∀ i,i<3→IncP (S.L i) (S.pgs.length:Nat):=fun i hi=>match i,hi with
  |0,_=>d1
  |1,_=>d2
  |2,_=>d3
 have mk:∀ hh:List Ob,makeSlice? cx hh 150 (.p (.int .i64 ((S.pgs.length:Nat):Int))) (.p (.int .i64 ((S.pgs.length:Nat):Int)))=_:=fun hh=>make_bools (by omega)
 -- the list of all
 obtain⟨v1,h1,a1,⟨j1,g1,b1,b1'⟩,e1,f1,k1,m1⟩:=app_any (c:=cx) (o:=o) (rd:=none) (h:=[.cells 25 S.cells,.row 4 1 (marks [] S.pgs.length) true 0,.row 3 1 [] true 0]) (i:=2) (g:=0) (e:=3) (xs:=[]) (x:=.p S.p1) rfl s3 (by decide) (O.h1.sl _).elems (O.h1.sl []).szIsB (room_le room3 (by rw[ints_length];simp;omega))
 rw[b1]at a1
 obtain⟨ex1,r1,_⟩:=sl_own a1
 simp only[List.nil_append]at a1 r1 b1
 obtain⟨v2,h2,a2,⟨j2,g2,b2,b2'⟩,e2,f2,k2,m2⟩:=app_any (c:=cx) (o:=o) (rd:=none) (x:=.p S.p2) r1 s3 (by decide) (O.h2.sl _).elems (O.h2.sl []).szIsB (room_le room3 (by rw[ints_length,ints_length];omega))
 rw[b2]at a2
 obtain⟨ex2,r2,_⟩:=sl_own a2
 obtain⟨v3,h3,a3',⟨j3,g3,b3,b3'⟩,e3,f3,k3,m3⟩:=app_any (c:=cx) (o:=o) (rd:=none) (x:=.p S.p3) r2 s3 (by decide) (O.h3.sl _).elems (O.h3.sl []).szIsB (room_le room3 (by rw[List.length_append,ints_length,ints_length,ints_length];omega))
 rw[b3]at a3'
 obtain⟨ex3,r3,_⟩:=sl_own a3'
 simp only[List.length_cons,List.length_nil]at e1 f1 b1'
 have x10:hget h1 0=.cells 25 S.cells:=f1 0 (by omega) (by omega)
 have x11:hget h1 1=.row 4 1 (marks [] S.pgs.length) true 0:=f1 1 (by omega) (by omega)
 have x20:hget h2 0=.cells 25 S.cells:=by rw[f2 0 (by omega) (by omega)];exact x10
 have x21:hget h2 1=.row 4 1 (marks [] S.pgs.length) true 0:=by rw[f2 1 (by omega) (by omega)];exact x11
 have x31:hget h3 1=.row 4 1 (marks [] S.pgs.length) true 0:=by rw[f3 1 (by omega) (by omega)];exact x21
 have x30:hget h3 0=.cells 25 S.cells:=by rw[f3 0 (by omega) (by omega)];exact x20
 have ldA:∀ {hh:List Ob},hget hh 0=.cells 25 S.cells→load? cx hh 23 (.ptr 0 1)=some (.p S.p1)∧load? cx hh 23 (.ptr 0 2)=some (.p S.p2)∧load? cx hh 23 (.ptr 0 3)=some (.p S.p3):=fun h0=>⟨load_one a23 h0 rfl,load_one a23 h0 rfl,load_one a23 h0 rfl⟩
 have all_eq:ints S.fr++ints S.fs++ints S.gn=ints (S.pre 3):=by rw[S.pre3,ints_app,ints_app]
 rw[all_eq]at r3 b3
 have hzd:∀ {Q:Post} {t:Tm} {hh:List Ob} {d:List AD} {r:Option RM},xC cx o none sc40d7 Q t hh d r=xDraw cx o none Q sc40r7 0 [hh++[.row 3 1 [] true 0]] [] [.sl hh.length 0 1 0 0] t (hh++[.row 3 1 [] true 0]) d r:=fun {Q t hh d r}=>xC_drawZ1 (by rfl) (by kernel_rfl) (by show buildSlice? cx hh 23 0 []=_;exact build0 u23 s3 a3 z3)
 simp only[List.length_nil]at m1
 have b1e:v1=.sl j1 g1 1 0 (ints S.fr).length:=b1
 simp only[sc40,sc40r0,sc40r1,sc40r2,sc40r3,sc40r4,sc40r5,sc40r6,sc40r8,sc40r15,hzd,sc40r7,↓xDraw_Z,↓rwS,rwT,rwG,Nat.reduceEqDiff,Nat.reduceAdd,reduceCtorEq,Nat.reduceLT,↓rwC,rwD,rwI,Nat.reduceSub,Nat.reduceLeDiff,hbox,List.cons_append,List.nil_append,List.length_cons,List.length_nil,fa0,ld0,len0,fa4,ld4,fa5,ld5,c1,c2,c3,c4,c5,c6,decide_false,fa1,ld1,cc1,incB_true d1,fa2,ld2,cc2,incB_true d2,fa3,ld3,cc3,incB_true d3,mk,appW_sl u23 u23,m1,(ldA x10).1,(ldA x10).2.1,(ldA x10).2.2,(ldA x20).1,(ldA x20).2.1,(ldA x20).2.2,(ldA x30).1,(ldA x30).2.1,(ldA x30).2.2,b1e,m2,b2,m3]
 have hj31:j3 ≠ 1:=by omega
 have hrange:∀ i,i<(S.pre 3).length→2≤(S.pre 3).getD i 0∧(S.pre 3).getD i 0<((S.pgs.length:Nat):Int):=fun i hi=>by
  have hm:(S.pre 3).getD i 0∈S.pre 3:=by rw[List.getD,List.getElem?_eq_getElem hi];exact List.getElem_mem hi
  generalize (S.pre 3).getD i 0=x at hm
  rw[S.pre3,List.mem_append,List.mem_append]at hm
  rcases hm with(q|q)|q
  ·exact incP_mem d1 q
  ·exact incP_mem d2 q
  ·exact incP_mem d3 q
 have hal:(S.pre 3).length<1000000:=by rw[S.pre3,List.length_append,List.length_append];omega
 refine xC_loop (fun m t h' d r => ∃ i : Nat, m = (S.pre 3).length - i ∧ i ≤ (S.pre 3).length ∧ ((S.pre 3).take i).Nodup ∧ d = [] ∧ r = none ∧ hget h' 1 = .row 4 1 (marks ((S.pre 3).take i) S.pgs.length) true 0 ∧ hget h' j3 = .row 3 1 (ints (S.pre 3)) ex3 g3 ∧
  t.get 4=.sl 1 0 1 0 S.pgs.length∧t.get 5=.sl j3 g3 1 0 (S.pre 3).length∧t.get 6=.p (.int .i64 (i:Int))) (S.pre 3).length ?_ ?_
 ·refine⟨0,rfl,by omega,List.nodup_nil,rfl,rfl,x31,r3,?_⟩
  simp only[↓rwA,rwB,rwG,Nat.reduceEqDiff,Nat.reduceAdd,reduceCtorEq,Nat.reduceLT,true_and,b3,ints_length]
  all_goals(first|rfl|exact⟨rfl,rfl⟩|exact⟨rfl,rfl,rfl⟩|exact⟨rfl,trivial⟩|exact trivial)
 ·rintro m t h' d r ⟨i,rfl,hi,hnd,rfl,rfl,y1,y3,t4,t5,t6⟩
  have H5:Sl h' 1 (.sl j3 g3 1 0 (S.pre 3).length) (ints (S.pre 3)):=by
   have:=(Co1.own y3).sl' (.own _ _)
   rw[ints_length]at this;exact this
  have hl1:=hget_flat_lt (h:=h') (i:=1) (by rw[y1];rfl)
  by_cases hlt:(i:Int)<(((S.pre 3).length:Nat):Int)
  ·have hil:i<(S.pre 3).length:=by omega
   obtain⟨ja,jd⟩:=int_at (k:=i) H5 u23 hil
   obtain⟨x0,xn⟩:=hrange i hil
   have w2:=one64 (show i<4611686018427387904 by omega)
   have hxt:((S.pre 3).getD i 0).toNat<S.pgs.length:=by omega
   have hxc:(((S.pre 3).getD i 0).toNat:Int)=(S.pre 3).getD i 0:=by omega
   have hM:Sl h' 1 (.sl 1 0 1 0 S.pgs.length) (marks ((S.pre 3).take i) S.pgs.length):=by
    have:=(Co1.own y1).sl' (.own _ _)
    rw[marks_len]at this;exact this
   have ma:indexAddr? cx 150 (.sl 1 0 1 0 S.pgs.length) (.p (.int .i64 ((S.pre 3).getD i 0)))=some (rdS (.sl 1 0 1 0 S.pgs.length) ((S.pre 3).getD i 0).toNat):=hM.at (sz:=0) u150 s4 (by omega) (by rw[marks_len];exact xn)
   have md:load? cx h' 4 (rdS (.sl 1 0 1 0 S.pgs.length) ((S.pre 3).getD i 0).toNat)=some (.p (.bool (decide ((S.pre 3).getD i 0∈(S.pre 3).take i)))):=by
    have e1:(marks ((S.pre 3).take i) S.pgs.length).getD ((S.pre 3).getD i 0).toNat .nilp=.bool (decide ((S.pre 3).getD i 0∈(S.pre 3).take i)):=by
     rw[List.getD,marks_get hxt,hxc];rfl
    rw[hM.load (c:=cx) (by rw[marks_len];exact hxt) (by rw[e1];exact eok_bool a4),e1]
   have snoc:(S.pre 3).take (i+1)=(S.pre 3).take i++[(S.pre 3).getD i 0]:=take_snoc hil
   by_cases b3:(S.pre 3).getD i 0∈(S.pre 3).take i
   ·have hb:S.soundB=false:=Spc.soundB_f fun hs=>by
     have h3:=hs.2.2
     rw[← List.take_append_drop (i+1) (S.pre 3),List.nodup_append]at h3
     have h4:=h3.1
     rw[snoc,List.nodup_append]at h4
     exact h4.2.2 _ b3 _ (List.mem_singleton.2 rfl) rfl
    simp only[sc40r0,sc40r1,sc40r2,sc40r3,sc40r4,sc40r5,sc40r6,sc40r7,sc40r8,sc40r9,sc40r10,sc40r11,sc40r12,sc40r13,sc40l14,sc40r15,sc40,↓rwS,rwT,rwG,Nat.reduceEqDiff,Nat.reduceAdd,reduceCtorEq,Nat.reduceLT,t4,t5,t6,H5.len u23,ints_length,hlt,decide_true,ja,jd,ma,md,b3,hb]
   ·have nd3:((S.pre 3).take (i+1)).Nodup:=by
     rw[snoc,List.nodup_append]
     refine⟨hnd,by simp,fun a ha b hb=>?_⟩
     rw[List.mem_singleton.1 hb]
     intro q;subst q;exact b3 ha
    have st:store? cx h' 4 (rdS (.sl 1 0 1 0 S.pgs.length) ((S.pre 3).getD i 0).toNat) (.p (.bool true)) =
      .wh undefA (hset h' 1 (.row 4 1 (marks ((S.pre 3).take (i+1)) S.pgs.length) true 0)):=by
     have:=store_el (c:=cx) (h:=h') (i:=1) (g:=0) (v:=.bool true) s4 y1 (marks_get hxt) (fun l q=>by cases q) rfl rfl
     show store? cx _ 4 (.el 1 0 1 (0+((S.pre 3).getD i 0).toNat) 0) _=_
     rw[Nat.zero_add,this,marks_set (by omega),← snoc]
    simp only[sc40r0,sc40r1,sc40r2,sc40r3,sc40r4,sc40r5,sc40r6,sc40r7,sc40r8,sc40r9,sc40r10,sc40r11,sc40r12,sc40r13,sc40l14,sc40r15,sc40,↓rwS,rwT,rwG,Nat.reduceEqDiff,Nat.reduceAdd,reduceCtorEq,Nat.reduceLT,t4,t5,t6,H5.len u23,ints_length,hlt,decide_true,decide_false,ja,jd,ma,md,b3,st,w2,true_and]
    refine⟨_,?_,i+1,rfl,by omega,nd3,?_,?_,?_⟩
    ·omega
    ·rw[hget_hset _ _ _ _ hl1,if_pos rfl]
    ·rw[hget_hset _ _ _ _ hl1,if_neg hj31];exact y3
    ·all_goals(first|rfl|exact⟨rfl,rfl⟩|exact⟨rfl,rfl,rfl⟩|exact⟨rfl,trivial⟩|exact trivial)
  ·have hil:(S.pre 3).take i=S.pre 3:=List.take_of_length_le (by omega)
   rw[hil]at hnd
   have hb:S.soundB=true:=Spc.soundB_t ⟨okN,hinc,hnd⟩
   simp only[sc40r0,sc40r1,sc40r2,sc40r3,sc40r4,sc40r5,sc40r6,sc40r7,sc40r8,sc40r9,sc40r10,sc40r11,sc40r12,sc40r13,sc40l14,sc40r15,sc40,↓rwS,rwT,rwG,Nat.reduceEqDiff,Nat.reduceAdd,reduceCtorEq,Nat.reduceLT,t4,t5,t6,H5.len u23,ints_length,hlt,decide_false,hb]
   all_goals(first|rfl|exact trivial)
end
end Go.Proofs
namespace Go.Ai
theorem store_cell{c:Ctx} {h:List Ob} {ty e:TypeId} {off i:Nat} {cs:List AV} {v:AV} (hs:sizeOf? c ty=some 1) (hi:hget h i=.cells e cs) (hv:v.cells?=some [v]) (ho:off<cs.length) :
  store? c h ty (.ptr i off) v=.ws undefA i (.cells e (cs.set off v)):=by
 unfold store?
 simp only[hs]
 unfold storePtr
 simp only[hv,hi,List.length_cons,List.length_nil,Nat.zero_add,Nat.beq_refl,cond]
 unfold overK
 rw[Nat.ble_eq_true_of_le (show off + [v].length≤cs.length by simp;omega)]
 simp only[cond,lnf_eq,List.length_cons,List.length_nil,Nat.zero_add]
 congr 2
 rw[List.set_eq_take_append_cons_drop,if_pos ho];rfl
theorem Co1.one_cell{h v c sz xs} (H:Co1 h v c) (hs:IsS sz c xs):v.cells?=some [v]:=by
 cases hs with
 |nil=>cases H with|p=>rfl
 |vec=>cases H<;>rfl
 |own=>cases H with|own=>rfl
theorem Co1.hset{h v c i o} (H:Co1 h v c) (hf:Ai.flat (hget h i)=false):Co1 (hset h i o) v c:=by
 refine H.keep fun j hj=>?_
 have hj2:=H.flat j hj
 have hne:j ≠ i:=by rintro rfl;rw[hj2]at hf;cases hf
 by_cases q:i<h.length
 ·rw[hget_hset _ _ _ _ q,if_neg hne]
 ·have:Ai.hset h i o=h:=by
   rw[hset_eq,List.set_eq_of_length_le (by omega)]
  rw[this]
end Go.Ai
namespace Go.Proofs
open Go Go.Ai
def HasIns(o:Orc):Prop:=∀ args h,o 323 args h=insO cx 3 1 8 args h
section
variable {o:Orc} (ho:FreeT o) (hI:HasIns o)
include ho hI
theorem clone_cs{h v cv l} (H:Co1 h v cv) (hs:IsS 1 cv (ints l)) (hl:l.length<1000000) :
  ∃ v1 ext,CS cx o (.fn 129 [v]) h (.ret v1) (h++ext)∧Co1 (h++ext) v1 (clV 3 1 cv (ints l))∧∀ i∈ids1 v1,h.length≤i:=by
 obtain⟨e,ext,h1,h2,h3⟩:=cs_valF True (c:=cx) (o:=o) (f:=129) (h:=h) («as»:=[v]) (ps:=[cv]) (qe:=.val (clV 3 1 cv (ints l))) (.cons (.one H) .nil) fun h0 as0 H0=>by
  obtain⟨v0,rfl,hv0⟩:=l2_1 H0
  obtain⟨e,h',hr,a,b,c⟩:=clone103 ho (hv0.one_s hs) hs hl
  exact⟨e,h',hr,a,b,fun _=>by obtain⟨v,q,q1,q2,q3⟩:=c trivial;exact⟨v,_,q1,q2,q3⟩⟩
 obtain⟨v1,rfl,hv1⟩:=h2.val_inv
 obtain⟨v2,q1,q2⟩:=h3 trivial
 cases q1
 have hc:=hv1.one_s (clV_is hs)
 refine⟨v1,ext,h1,hc,fun i hi=>q2 i ?_⟩
 rw[hc.idsA];exact hi
end
theorem hset_hset:∀ (h:List Ob) (i:Nat) (a b:Ob),hset (hset h i a) i b=hset h i b:=by
 intro h
 induction h with
 |nil=>intro i a b;cases i<;>rfl
 |cons x l ih=>
  intro i a b
  cases i with
  |zero=>rfl
  |succ i=>show x::hset (hset l i a) i b=x::hset l i b;rw[ih]
theorem u171:cx.under 327=some (.slice 29):=by kernel_rfl
theorem b257(a b c d e f:PV):build? cx 257 [(0,.p (.agg [a,b,c,d,e,f]))]=some (.p (.agg [a,b,c,d,e,f])):=by kernel_rfl
def Spc.cvs(S:Spc):List CV:=[.own 62 10 S.pgs,clV 3 1 (.pv S.p1) (ints S.fr),clV 3 1 (.pv S.p2) (ints S.fs),clV 3 1 (.pv S.p3) (ints S.gn),.pv (.int .i64 S.ver),.pv (.int .i64 S.tr)]
theorem hget_cells_lt{h i e cs} (H:hget h i=.cells e cs):i<h.length:=by
 rw[hget_eq]at H
 by_cases q:i<h.length
 ·exact q
 ·rw[List.getElem?_eq_none (by omega)]at H;cases H
section
variable {o:Orc} (ho:FreeT o)
include ho
theorem call18{S:Spc} (O:SpcOk S) {h dst t d r K Q}:callW cx o dst t h d r (some (.fn 83 [.p S.v])) K Q=K (put dst (.p (.int .i64 S.soundE)) t) h d r:=
 callW_ret ext83 (cs_p (f:=83) (ps:=[S.v]) rfl (sound18 ho O))
theorem open48_f{S:Spc} (O:SpcOk S) (hs:¬S.Sound):Ct cx o (.fn 157 [.p S.v,.p .nils]) [] (fun e _=>e=.pan (.p (failV 2))):=by
 refine ct157 (ho _ _ _ (by decide) (by decide)) rfl ?_
 have hbox:∀ hh:List Ob,boxW hh 25 (.p S.v)=.wn (.ptr hh.length 0) (.cells 25 S.cells):=fun hh=>rfl
 have ldS:load? cx [.cells 25 S.cells] 25 (.ptr 0 0)=some (.p S.v):=(load_whole a25 s25 rfl rfl).trans rfl
 have h2:¬((2:Int)=0):=by decide
 simp only[sc157,sc157r0,sc157r1,↓rwS,rwT,rwG,Nat.reduceEqDiff,Nat.reduceAdd,reduceCtorEq,Nat.reduceLT,hbox,List.nil_append,List.length_nil,ldS,call18 ho O,Spc.soundE_f hs,h2,decide_false,call53_f ho]
 all_goals(first|rfl|exact⟨rfl,rfl,rfl⟩|exact⟨rfl,rfl⟩|trivial)
theorem clone_cs2{h v cv xs} (H:Co1 h v cv) (hs:IsS 10 cv xs) (hl:xs.length<1000000) :
  ∃ v1 ext,CS cx o (.fn 128 [v]) h (.ret v1) (h++ext)∧Co1 (h++ext) v1 (clV 62 10 cv xs)∧∀ i∈ids1 v1,h.length≤i:=by
 obtain⟨e,ext,h1,h2,h3⟩:=cs_valF True (c:=cx) (o:=o) (f:=128) (h:=h) («as»:=[v]) (ps:=[cv]) (qe:=.val (clV 62 10 cv xs)) (.cons (.one H) .nil) fun h0 as0 H0=>by
  obtain⟨v0,rfl,hv0⟩:=l2_1 H0
  obtain⟨e,h',hr,a,b,c⟩:=clone102 ho (hv0.one_s hs) hs hl
  exact⟨e,h',hr,a,b,fun _=>by obtain⟨v,q,q1,q2,q3⟩:=c trivial;exact⟨v,_,q1,q2,q3⟩⟩
 obtain⟨v1,rfl,hv1⟩:=h2.val_inv
 obtain⟨v2,q1,q2⟩:=h3 trivial
 cases q1
 have hc:=hv1.one_s (clV_is hs)
 refine⟨v1,ext,h1,hc,fun i hi=>q2 i ?_⟩
 rw[hc.idsA];exact hi
theorem open48_t(hI:HasIns o) {S:Spc} (O:SpcOk S) (hs:S.Sound):Ct cx o (.fn 157 [.p S.v,.p .nils]) [] (fun e h1=>CoE h1 e (.ptr 257 S.cvs)):=by
 refine ct157 (ho _ _ _ (by decide) (by decide)) rfl ?_
 have hbox:∀ hh:List Ob,boxW hh 25 (.p S.v)=.wn (.ptr hh.length 0) (.cells 25 S.cells):=fun hh=>rfl
 have hbox2:∀ hh:List Ob,boxW hh 257 (.p S.v)=.wn (.ptr hh.length 0) (.cells 257 S.cells):=fun hh=>rfl
 have ldS:load? cx [.cells 25 S.cells] 25 (.ptr 0 0)=some (.p S.v):=(load_whole a25 s25 rfl rfl).trans rfl
 have bS:build? cx 257 [(0,.p S.v)]=some (.p S.v):=b257 _ _ _ _ _ _
 have fA:∀ k,fieldAddr? cx 257 (.ptr k 0) 0=some (.ptr k 0):=fun k=>fieldAddr_ptr (m:=5) f257_0 s25
 have fa0:∀ k,fieldAddr? cx 25 (.ptr k 0) 0=some (.ptr k 0):=fun k=>fieldAddr_ptr (m:=0) f25_0 s22
 have fa1:∀ k,fieldAddr? cx 25 (.ptr k 0) 1=some (.ptr k 1):=fun k=>fieldAddr_ptr (m:=0) f25_1 s23
 have fa2:∀ k,fieldAddr? cx 25 (.ptr k 0) 2=some (.ptr k 2):=fun k=>fieldAddr_ptr (m:=0) f25_2 s23
 have fa3:∀ k,fieldAddr? cx 25 (.ptr k 0) 3=some (.ptr k 3):=fun k=>fieldAddr_ptr (m:=0) f25_3 s23
 have l0:=O.l0
 have l1:=O.l1
 have l2:=O.l2
 have l3:=O.l3
 have hp2:2≤S.pgs.length:=hs.1.1
 have hcl:clV 62 10 (.pv S.p0) S.pgs=.own 62 10 S.pgs:=by
  have:=O.h0
  generalize S.p0=p at this
  generalize S.pgs=xs at this hp2
  cases this with
  |nil=>simp at hp2
  |vec=>rfl
 -- pages
 obtain⟨v0,ext1,q1,c0,n0⟩:=clone_cs2 ho (h:=[.cells 25 S.cells,.cells 257 S.cells]) (Co1.p S.p0) O.h0.is (by omega)
 rw[hcl]at c0
 have ld0:load? cx [.cells 25 S.cells,.cells 257 S.cells] 22 (.ptr 0 0)=some (.p S.p0):=load_one a22 rfl rfl
 have y1:hget ([.cells 25 S.cells,.cells 257 S.cells]++ext1) 1=.cells 257 S.cells:=rfl
 have y0:hget ([.cells 25 S.cells,.cells 257 S.cells]++ext1) 0=.cells 25 S.cells:=rfl
 have st0:=store_cell (c:=cx) (off:=0) s22 y1 (c0.one_cell (.own _ _)) (show 0<6 by decide)
 have c0':=c0.hset (i:=1) (o:=.cells 257 (S.cells.set 0 v0)) (by rw[y1];rfl)
 have hl1:1<([Ob.cells 25 S.cells,Ob.cells 257 S.cells]++ext1).length:=by simp
 have z1:hget (hset ([.cells 25 S.cells,.cells 257 S.cells]++ext1) 1 (.cells 257 (S.cells.set 0 v0))) 1=.cells 257 (S.cells.set 0 v0):=by rw[hget_hset _ _ _ _ hl1,if_pos rfl]
 have z0:hget (hset ([.cells 25 S.cells,.cells 257 S.cells]++ext1) 1 (.cells 257 (S.cells.set 0 v0))) 0=.cells 25 S.cells:=by rw[hget_hset _ _ _ _ hl1,if_neg (by decide)];exact y0
 generalize hM1:[.cells 25 S.cells,.cells 257 S.cells]++ext1=M1 at *
 generalize hM2:hset M1 1 (.cells 257 (S.cells.set 0 v0))=M2 at *
 -- the lists
 obtain⟨w1,ext2,q2,c1,n1⟩:=clone_cs ho hI (h:=M2) (Co1.p S.p1) O.h1.is (by omega)
 have z01:=(hget_appL ext2 0 (hget_cells_lt z0)).trans z0
 have z11:=(hget_appL ext2 1 (hget_cells_lt z1)).trans z1
 have c01:=c0'.ext ext2
 generalize hM3:M2++ext2=M3 at *
 obtain⟨w2,ext3,q3,c2,n2⟩:=clone_cs ho hI (h:=M3) (Co1.p S.p2) O.h2.is (by omega)
 have z02:=(hget_appL ext3 0 (hget_cells_lt z01)).trans z01
 have z12:=(hget_appL ext3 1 (hget_cells_lt z11)).trans z11
 have c02:=c01.ext ext3
 have c12:=c1.ext ext3
 generalize hM4:M3++ext3=M4 at *
 obtain⟨w3,ext4,q4,c3,n3⟩:=clone_cs ho hI (h:=M4) (Co1.p S.p3) O.h3.is (by omega)
 have z3:=(hget_appL ext4 0 (hget_cells_lt z02)).trans z02
 have z13:=(hget_appL ext4 1 (hget_cells_lt z12)).trans z12
 have c03:=c02.ext ext4
 have c13:=c12.ext ext4
 have c23:=c2.ext ext4
 generalize hM5:M4++ext4=M5 at *
 have ldA:∀ {hh:List Ob},hget hh 0=.cells 25 S.cells→load? cx hh 23 (.ptr 0 1)=some (.p S.p1)∧load? cx hh 23 (.ptr 0 2)=some (.p S.p2)∧load? cx hh 23 (.ptr 0 3)=some (.p S.p3):=fun h0=>⟨load_one a23 h0 rfl,load_one a23 h0 rfl,load_one a23 h0 rfl⟩
 have st1:=store_cell (c:=cx) (off:=1) s23 z13 (c13.one_cell (clV_is O.h1.is)) (show 1<6 by decide)
 have hf5:flat (hget M5 1)=false:=by rw[z13];rfl
 have h5l:=hget_cells_lt z13
 have z14:hget (hset M5 1 (.cells 257 ((S.cells.set 0 v0).set 1 w1))) 1=.cells 257 ((S.cells.set 0 v0).set 1 w1):=by rw[hget_hset _ _ _ _ h5l,if_pos rfl]
 have st2:=store_cell (c:=cx) (off:=2) s23 z14 (c23.one_cell (clV_is O.h2.is)) (show 2<6 by decide)
 have z15:hget (hset M5 1 (.cells 257 (((S.cells.set 0 v0).set 1 w1).set 2 w2))) 1=.cells 257 (((S.cells.set 0 v0).set 1 w1).set 2 w2):=by rw[hget_hset _ _ _ _ h5l,if_pos rfl]
 have st3:=store_cell (c:=cx) (off:=3) s23 z15 (c3.one_cell (clV_is O.h3.is)) (show 3<6 by decide)
 have z16:hget (hset M5 1 (.cells 257 ((((S.cells.set 0 v0).set 1 w1).set 2 w2).set 3 w3))) 1=.cells 257 ((((S.cells.set 0 v0).set 1 w1).set 2 w2).set 3 w3):=by rw[hget_hset _ _ _ _ h5l,if_pos rfl]
 have hfin:CoE (hset M5 1 (.cells 257 ((((S.cells.set 0 v0).set 1 w1).set 2 w2).set 3 w3))) (.ret (.ptr 1 0)) (.ptr 257 S.cvs):=
  .ptr z16 (.cons (c03.hset hf5) (.cons (c13.hset hf5) (.cons (c23.hset hf5) (.cons (c3.hset hf5) (.cons (.p _) (.cons (.p _) .nil))))))
 simp only[sc157,sc157r0,sc157r1,sc157r2,sc157r3,sc157d4_x,sc157r4,sc157r5,sc157r11,sc157r19,↓rwS,rwT,rwG,Nat.reduceEqDiff,Nat.reduceAdd,reduceCtorEq,Nat.reduceLT,↓rwC,rwD,rwI,Nat.reduceSub,Nat.reduceLeDiff,hbox,List.cons_append,List.nil_append,List.length_cons,List.length_nil,ldS,call18 ho O,Spc.soundE_t hs,decide_true,call53_t ho,bS,hbox2,fa0,fA,ld0,callW_ret ext128 q1,hM1,st0,hM2,fa1,fa2,fa3,(ldA z0).1,(ldA z0).2.1,(ldA z0).2.2,callW_ret ext129 q2,(ldA z01).1,(ldA z01).2.1,(ldA z01).2.2,callW_ret ext129 q3,(ldA z02).1,(ldA z02).2.1,(ldA z02).2.2,callW_ret ext129 q4,(ldA z3).1,(ldA z3).2.1,(ldA z3).2.2,st1,st2,st3,hset_hset,len_nils u171]
 refine xC_loop (fun n t h' d r=>d=[]∧r=none∧h'=hset M5 1 (.cells 257 ((((S.cells.set 0 v0).set 1 w1).set 2 w2).set 3 w3))∧t.get 1=.p .nils∧t.get 5=.ptr 1 0∧t.get 46=.p (.int .i64 ((0:Nat):Int))∧t.get 47=.p (.int .i64 0)) 0 ?_ ?_
 ·refine⟨rfl,rfl,rfl,?_⟩
  simp only[↓rwA,rwB,rwG,Nat.reduceEqDiff,Nat.reduceAdd,reduceCtorEq,Nat.reduceLT,true_and]
  all_goals(first|rfl|exact⟨rfl,rfl⟩|exact⟨rfl,rfl,rfl⟩|exact trivial)
 ·rintro n t h' d r ⟨rfl,rfl,rfl,t1,t5,t46,t47⟩
  have hlt:¬((0:Int)<((0:Nat):Int)):=by decide
  simp only[sc157,sc157l10,sc157r6,sc157r11,sc157r19,↓rwS,rwT,rwG,Nat.reduceEqDiff,Nat.reduceAdd,reduceCtorEq,Nat.reduceLT,t1,t5,t46,t47,hlt,decide_false,len_nils u171]
  refine xC_loop (fun n t h' d r=>d=[]∧r=none∧h'=hset M5 1 (.cells 257 ((((S.cells.set 0 v0).set 1 w1).set 2 w2).set 3 w3))∧t.get 5=.ptr 1 0∧t.get 77=.p (.int .i64 ((0:Nat):Int))∧t.get 78=.p (.int .i64 0)) 0 ?_ ?_
  ·refine⟨rfl,rfl,rfl,?_⟩
   simp only[↓rwA,rwB,rwG,Nat.reduceEqDiff,Nat.reduceAdd,reduceCtorEq,Nat.reduceLT,true_and,t5]
   all_goals(first|rfl|exact⟨rfl,rfl⟩|exact⟨rfl,rfl,rfl⟩|exact trivial)
  ·rintro n t h' d r ⟨rfl,rfl,rfl,t5,t77,t78⟩
   simp only[sc157l18,sc157r12,sc157r19,↓rwS,rwT,rwG,Nat.reduceEqDiff,Nat.reduceAdd,reduceCtorEq,Nat.reduceLT,t5,t77,t78,hlt,decide_false]
   exact hfin
end
def FU(h h':List Ob):Prop:=h.length≤h'.length∧∀ j,0<j→j<h.length→flat (hget h j)=true→flat (hget h' j)=true
theorem FU.refl(h):FU h h:=⟨Nat.le_refl _,fun _ _ _ q=>q⟩
theorem FU.trans{a b c} (p:FU a b) (q:FU b c):FU a c:=⟨Nat.le_trans p.1 q.1,fun j h1 h2 h3=>q.2 j h1 (Nat.lt_of_lt_of_le h2 p.1) (p.2 j h1 h2 h3)⟩
theorem FU.ext(h e:List Ob):FU h (h++e):=⟨by rw[List.length_append];omega,fun j _ h2 h3=>by rw[hget_appL _ _ h2];exact h3⟩
theorem FU.set(h:List Ob) (o):FU h (hset h 0 o):=⟨by rw[hset_length];exact Nat.le_refl _,fun j h1 h2 h3=>by
 rw[hget_hset _ _ _ _ (by omega),if_neg (by omega)];exact h3⟩
theorem l2_6{h:List Ob} {cs:List AV} {a b c d e f:CV} (H:L2 (Co1 h) cs [a,b,c,d,e,f]):∃ x0 x1 x2 x3 x4 x5,cs=[x0,x1,x2,x3,x4,x5]∧Co1 h x0 a∧Co1 h x1 b∧Co1 h x2 c∧Co1 h x3 d∧Co1 h x4 e∧Co1 h x5 f:=by
 cases H with
 |cons h0 H=>cases H with
  |cons h1 H=>cases H with
   |cons h2 H=>obtain⟨x3,x4,x5,rfl,h3,h4,h5⟩:=l2_3 H;exact⟨_,_,_,_,_,_,rfl,h0,h1,h2,h3,h4,h5⟩
theorem def47_ret{o:Orc} {h:List Ob} {j:Nat} {n:Int} (hj:hget h j=.cells 36 [.p (.int .i64 n)]):DefRun cx o 156 j h .ret (hset h j (.cells 36 [.p (.int .i64 n)])) .ret:=by
 obtain⟨e,h',r',⟨k0,hk⟩,rfl,rfl,rfl⟩:=rec47_ret (o:=o) n
 exact inner_cell (cs:=[.int .i64 n]) (cs':=[.int .i64 n]) (ext:=[]) hj rfl rfl rfl ⟨k0,hk⟩
theorem def47_pan{o:Orc} {h:List Ob} {j:Nat} {n x:Int} (hj:hget h j=.cells 36 [.p (.int .i64 n)]):DefRun cx o 156 j h (.pan (.p (failV x)) false) (hset h j (.cells 36 [.p (.int .i64 x)])) (.pan (.p (failV x)) true):=by
 obtain⟨e,h',r',⟨k0,hk⟩,rfl,⟨ext,rfl⟩,rfl⟩:=rec47_pan (o:=o) n x
 exact inner_cell (cs:=[.int .i64 n]) (cs':=[.int .i64 x]) (ext:=ext) hj rfl rfl rfl ⟨k0,hk⟩
theorem endD_ret{o:Orc} {rs g P t h j} {r:Option RM} (h1:List Ob) (vs:List AV) (hd:DefRun cx o g j h .ret h1 .ret) (hr:results? cx h1 t rs=some vs) (hP:P (.ret (vals vs)) h1) (hn:r=none):endD cx o rs g P .ret t h [.fn g [.ptr j 0]] r:=⟨hn,j,rfl,h1,hd,vs,hr,hP⟩
theorem endD_pan{o:Orc} {rs g P t h j v} {r:Option RM} (h1:List Ob) (vs:List AV) (hd:DefRun cx o g j h (.pan v false) h1 (.pan v true)) (hr:results? cx h1 t rs=some vs) (hP:P (.ret (vals vs)) h1) (hn:r=none):endD cx o rs g P (.pan v) t h [.fn g [.ptr j 0]] r:=⟨hn,j,rfl,h1,hd,vs,hr,hP⟩
section
variable {o:Orc} (ho:FreeT o)
include ho
theorem open_pan{S:Spc} (O:SpcOk S) (hs:¬S.Sound) {h dst t d r K Q}:callW cx o dst t h d r (some (.fn 157 [.p S.v,.p .nils])) K Q=Q (.pan (.p (failV 2))) t h d r:=
 callW_pan ext157 (cs_panP (f:=157) (ps:=[S.v,.nils]) (open48_f ho O hs))
theorem open_cs(hI:HasIns o) {S:Spc} (O:SpcOk S) (hs:S.Sound) (h:List Ob):∃ j cs ext,CS cx o (.fn 157 [.p S.v,.p .nils]) h (.ret (.ptr j 0)) (h++ext)∧hget (h++ext) j=.cells 257 cs∧L2 (Co1 (h++ext)) cs S.cvs:=by
 obtain⟨e,ext,h1,h2⟩:=cs_valP (h:=h) (ps:=[S.v,.nils]) (open48_t ho hI O hs)
 cases h2 with
 |ptr h3 h4=>exact⟨_,_,ext,h1,h3,h4⟩
end
structure WK (h:List Ob) (e:TypeId) (cs:List AV) (cvs:List CV):Prop where
 at0:hget h 0=.cells e cs
 co:L2 (Co1 h) cs cvs
theorem l2_set{α β:Type} {R:α→β→Prop} {a:α} {b:β} (hab:R a b):∀ {l m} (k:Nat),L2 R l m→L2 R (l.set k a) (m.set k b)
 |_,_,_,.nil=>.nil
 |_,_,0,.cons _ H=>.cons hab H
 |_,_,k+1,.cons h H=>.cons h (l2_set hab k H)
theorem WK.lt{h e cs cvs} (W:WK h e cs cvs):0<h.length:=hget_cells_lt W.at0
theorem WK.nf{h e cs cvs} (W:WK h e cs cvs):flat (hget h 0)=false:=by rw[W.at0];rfl
theorem WK.ext{h e cs cvs} (W:WK h e cs cvs) (x:List Ob):WK (h++x) e cs cvs:=⟨(hget_appL x 0 W.lt).trans W.at0,W.co.ext1 x⟩
theorem WK.put{h e cs cvs v c} (W:WK h e cs cvs) (k:Nat) (H:Co1 h v c):WK (hset h 0 (.cells e (cs.set k v))) e (cs.set k v) (cvs.set k c):=
 ⟨by rw[hget_hset _ _ _ _ W.lt,if_pos rfl],l2_set (R:=Co1 _) (H.hset W.nf) k (W.co.imp fun a b q=>q.hset W.nf)⟩
theorem WK.st{h e cs cvs v c ty sz xs} (W:WK h e cs cvs) (k:Nat) (H:Co1 h v c) (hc:IsS sz c xs) (hs:sizeOf? cx ty=some 1) (hk:k<cs.length):store? cx h ty (.ptr 0 k) v=.ws undefA 0 (.cells e (cs.set k v)):=
 store_cell (c:=cx) (off:=k) hs W.at0 (H.one_cell hc) hk
theorem WK.ld{h e cs cvs x ty k} (W:WK h e cs cvs) (ha:aggT? cx ty=some false) (hx:cs[k]?=some x):load? cx h ty (.ptr 0 k)=some x:=load_one ha W.at0 hx
section
variable {o:Orc} (ho:FreeT o)
include ho
theorem has_cs{h v cv l} {x:Int} (H:Co1 h v cv) (hs:IsS 1 cv (ints l)) (hi:Inc l) (hl:l.length<100000):CS cx o (.fn 274 [v,.p (.int .i64 x)]) h (.ret (.p (.bool (decide (x∈l))))) h:=
 cs_pure (c:=cx) (o:=o) (f:=274) (ps:=[cv,.pv (.int .i64 x)]) (.cons (.one H) (.cons (.one (.p _)) .nil)) rfl fun h0 as0 H0=>by
  obtain⟨v0,y,rfl,hv0,hy⟩:=l2_2 H0
  have hy':=hy.pv_int
  subst hy'
  obtain⟨e,h',hr,a,b⟩:=has54 ho (hv0.one_s hs) hs hi (x:=x) (by omega)
  exact⟨e,h',hr,b,[],by rw[a];simp⟩
variable (hI:HasIns o)
include hI
end
theorem l2_7{h:List Ob} {cs:List AV} {a b c d e f g:CV} (H:L2 (Co1 h) cs [a,b,c,d,e,f,g]):∃ x0 x1 x2 x3 x4 x5 x6,cs=[x0,x1,x2,x3,x4,x5,x6]∧Co1 h x0 a∧Co1 h x1 b∧Co1 h x2 c∧Co1 h x3 d∧Co1 h x4 e∧Co1 h x5 f∧Co1 h x6 g:=by
 cases H with
 |cons h0 H=>obtain⟨x1,x2,x3,x4,x5,x6,rfl,h1,h2,h3,h4,h5,h6⟩:=l2_6 H;exact⟨_,_,_,_,_,_,_,rfl,h0,h1,h2,h3,h4,h5,h6⟩
theorem co1_int{h v k n} (H:Co1 h v (.pv (.int k n))):v=.p (.int k n):=by cases H;rfl
theorem b164(a b c d e f:PV):build? cx 164 [(0,.p (.agg [a,b,c,d,e,f]))]=some (.p (.agg [a,b,c,d,e,f,.int .i64 0])):=by kernel_rfl
def wkC(c0 c1 c2 c3:CV) (ver tr E:Int):List CV:=[c0,c1,c2,c3,.pv (.int .i64 ver),.pv (.int .i64 tr),.pv (.int .i64 E)]
section
variable {o:Orc} (ho:FreeT o)
include ho
theorem methK{f:FuncId} {h j e0 cs cvs qcvs bs ps qe} (hj:hget h j=.cells e0 cs) (H:L2 (Co1 h) cs cvs) (Ha:L2 (Co h) bs ps) (hq:∀ e qs,qe ≠ .ptr e qs)
  (hc:∀ h0 cs0 as0,WK h0 e0 cs0 cvs→L2 (Co h0) as0 ps→Ct cx o (.fn f (.ptr 0 0::as0)) h0 fun e h1=>FU h0 h1∧(∃ cs1,WK h1 e0 cs1 qcvs)∧CoE h1 e qe) :
  ∃ e h1,CS cx o (.fn f (.ptr j 0::bs)) h e h1∧(∃ cs1,hget h1 j=.cells e0 cs1∧L2 (Co1 h1) cs1 qcvs)∧CoE h1 e qe∧h.length≤h1.length ∧
   (∀ k,k<h.length→k ≠ j→flat (hget h k)=false→hget h1 k=hget h k)∧(∀ k,k<h.length→k ≠ j→flat (hget h k)=true→flat (hget h1 k)=true):=by
 obtain⟨e,h1,p1,p2,p3,p4,p5,p6⟩:=cs_ptr (c:=cx) (o:=o) (f:=f) hj H Ha hq fun h0 cs0 as0 b1 b2 b3 b4=>by
  obtain⟨e,h1,hr,q1,⟨cs1,W⟩,q3⟩:=hc h0 cs0 as0 ⟨b1,b3⟩ b4
  exact⟨e,h1,hr,q1.1,fun j a b=>q1.2 j a b (b2 j a b),⟨cs1,W.at0,W.co⟩,q3⟩
 refine⟨e,h1,p1,p3,p4,p2,fun k hk hkj hf=>p5 k hk hkj (fun q=>?_) (fun q=>?_),p6⟩
 ·have:=H.flat1 k q;rw[hf]at this;cases this
 ·have:=Ha.flat k q;rw[hf]at this;cases this
theorem methW{f:FuncId} {h e0 cs cvs qcvs bs ps qe} (W:WK h e0 cs cvs) (Ha:L2 (Co h) bs ps) (hq:∀ e qs,qe ≠ .ptr e qs)
  (hc:∀ h0 cs0 as0,WK h0 e0 cs0 cvs→L2 (Co h0) as0 ps→Ct cx o (.fn f (.ptr 0 0::as0)) h0 fun e h1=>FU h0 h1∧(∃ cs1,WK h1 e0 cs1 qcvs)∧CoE h1 e qe) :
  ∃ e h1,CS cx o (.fn f (.ptr 0 0::bs)) h e h1∧FU h h1∧(∃ cs1,WK h1 e0 cs1 qcvs)∧CoE h1 e qe:=by
 obtain⟨e,h1,p1,⟨cs1,p2,p3⟩,p4,p5,p6,p7⟩:=methK ho W.at0 W.co Ha hq hc
 exact⟨e,h1,p1,⟨p5,fun k h1 h2 h3=>p7 k h2 (by omega) h3⟩,⟨cs1,p2,p3⟩,p4⟩
theorem fail109{h0 cs0 c0 c1 c2 c3 ver tr E e} (W:WK h0 164 cs0 (wkC c0 c1 c2 c3 ver tr E)) :
  Ct cx o (.fn 176 [.ptr 0 0,.p (.int .i64 e)]) h0 (fun en h1=>FU h0 h1∧(∃ cs1,WK h1 164 cs1 (wkC c0 c1 c2 c3 ver tr (if E=0 then e else E)))∧CoE h1 en (.vals [])):=by
 refine ct176 (ho _ _ _ (by decide) (by decide)) rfl ?_
 have W0:=W
 obtain⟨x0,x1,x2,x3,x4,x5,x6,rfl,q0,q1,q2,q3,q4,q5,q6⟩:=l2_7 W.co
 have q6':=co1_int q6
 subst q6'
 have fb1:∀ k,fieldAddr? cx 164 (.ptr k 0) 1=some (.ptr k 6):=fun k=>fieldAddr_ptr (m:=0) f164_1 s36
 have d6:load? cx h0 36 (.ptr 0 6)=some (.p (.int .i64 E)):=W.ld a36 rfl
 by_cases hE:E=0
 ·subst hE
  have st:=store_one (c:=cx) (v:=.int .i64 e) s36 W.at0 rfl (show 6<7 by decide)
  have W1:=W.put 6 (Co1.p (.int .i64 e))
  simp only[sc176r0,sc176r1,sc176,↓rwS,rwT,rwG,Nat.reduceEqDiff,Nat.reduceAdd,reduceCtorEq,Nat.reduceLT,fb1,d6,decide_true,st]
  exact⟨FU.set _ _,⟨_,W1⟩,.vals .nil⟩
 ·simp only[sc176r0,sc176r1,sc176,↓rwS,rwT,rwG,Nat.reduceEqDiff,Nat.reduceAdd,reduceCtorEq,Nat.reduceLT,fb1,d6,hE,decide_false]
  exact⟨FU.refl _,⟨_,W0⟩,.vals .nil⟩
def needE(b:Bool) (E e:Int):Int:=if b=true then E else if E=0 then e else E
theorem need56{h0 cs0 c0 c1 c2 c3 ver tr E} {b:Bool} {e:Int} (W:WK h0 164 cs0 (wkC c0 c1 c2 c3 ver tr E)) :
  Ct cx o (.fn 89 [.ptr 0 0,.p (.bool b),.p (.int .i64 e)]) h0 (fun en h1=>FU h0 h1∧(∃ cs1,WK h1 164 cs1 (wkC c0 c1 c2 c3 ver tr (needE b E e)))∧CoE h1 en (.val (.pv (.bool (decide (needE b E e=0)))))):=by
 refine ct89 (ho _ _ _ (by decide) (by decide)) rfl ?_
 have fb1:∀ k,fieldAddr? cx 164 (.ptr k 0) 1=some (.ptr k 6):=fun k=>fieldAddr_ptr (m:=0) f164_1 s36
 cases b with
 |true=>
  obtain⟨x0,x1,x2,x3,x4,x5,x6,rfl,q0,q1,q2,q3,q4,q5,q6⟩:=l2_7 W.co
  have q6':=co1_int q6
  subst q6'
  have d6:load? cx h0 36 (.ptr 0 6)=some (.p (.int .i64 E)):=W.ld a36 rfl
  have hn:needE true E e=E:=if_pos rfl
  simp only[sc89r0,sc89r1,sc89r2,sc89r3,sc89,↓rwS,rwT,rwG,Nat.reduceEqDiff,Nat.reduceAdd,reduceCtorEq,Nat.reduceLT,fb1,d6,hn]
  exact⟨FU.refl _,⟨_,W⟩,.val (.one (.p _))⟩
 |false=>
  obtain⟨en,h1,p1,u1,⟨cs1,W1⟩,p4⟩:=methW ho (f:=176) (bs:=[.p (.int .i64 e)]) (ps:=[.pv (.int .i64 e)]) (qcvs:=wkC c0 c1 c2 c3 ver tr (if E=0 then e else E)) (qe:=.vals []) W (.cons (.one (.p _)) .nil) (fun e qs q=>by cases q) (fun h0 cs0 as0 W b3=>by
   obtain⟨y,rfl,hy⟩:=l2_1 b3
   have hy':=hy.pv_int
   subst hy'
   exact fail109 ho W)
  have hv:∃ v,en=.ret v:=by cases p4;exact⟨_,rfl⟩
  obtain⟨v,rfl⟩:=hv
  obtain⟨x0,x1,x2,x3,x4,x5,x6,rfl,q0,q1,q2,q3,q4,q5,q6⟩:=l2_7 W1.co
  have q6':=co1_int q6
  subst q6'
  have d6:load? cx h1 36 (.ptr 0 6)=some (.p (.int .i64 (if E=0 then e else E))):=W1.ld a36 rfl
  have hn:needE false E e=if E=0 then e else E:=if_neg (by decide)
  simp only[sc89r0,sc89r1,sc89r2,sc89r3,sc89,↓rwS,rwT,rwG,Nat.reduceEqDiff,Nat.reduceAdd,reduceCtorEq,Nat.reduceLT,callW_ret ext176 p1,fb1,d6,hn]
  exact⟨u1,⟨_,W1⟩,.val (.one (.p _))⟩
theorem call59{S:Spc} (O:SpcOk S) {h dst t d r K Q}:callW cx o dst t h d r (some (.fn 40 [.p S.v])) K Q=K (put dst (.p (.bool S.soundB)) t) h d r:=
 callW_ret ext40 (cs_p (f:=40) (ps:=[S.v]) rfl (sound59 ho O))
theorem need_cs{h j cs c0 c1 c2 c3 ver tr E} {b:Bool} {e:Int} (hj:hget h j=.cells 164 cs) (H:L2 (Co1 h) cs (wkC c0 c1 c2 c3 ver tr E)) :
  ∃ h1,CS cx o (.fn 89 [.ptr j 0,.p (.bool b),.p (.int .i64 e)]) h (.ret (.p (.bool (decide (needE b E e=0))))) h1∧(∃ cs1,hget h1 j=.cells 164 cs1∧L2 (Co1 h1) cs1 (wkC c0 c1 c2 c3 ver tr (needE b E e)))∧h.length≤h1.length ∧
   (∀ k,k<h.length→k ≠ j→flat (hget h k)=false→hget h1 k=hget h k)∧(∀ k,k<h.length→k ≠ j→flat (hget h k)=true→flat (hget h1 k)=true):=by
 obtain⟨en,h1,p1,p2,p3,p4,p5,p6⟩:=methK ho (f:=89) (bs:=[.p (.bool b),.p (.int .i64 e)]) (ps:=[.pv (.bool b),.pv (.int .i64 e)]) (qcvs:=wkC c0 c1 c2 c3 ver tr (needE b E e)) (qe:=.val (.pv (.bool (decide (needE b E e=0))))) hj H (.cons (.one (.p _)) (.cons (.one (.p _)) .nil)) (fun e qs q=>by cases q) (fun h0 cs0 as0 W b3=>by
  obtain⟨y,z,rfl,hy,hz⟩:=l2_2 b3
  have hz':=hz.pv_int
  subst hz'
  have hy':y=.p (.bool b):=by cases hy with|one h1=>cases h1;rfl
  subst hy'
  exact need56 ho W)
 obtain⟨v,rfl,hv⟩:=p3.val_inv
 have hv':v=.p (.bool (decide (needE b E e=0))):=by cases hv with|one h1=>cases h1;rfl
 subst hv'
 exact⟨h1,p1,p2,p4,p5,p6⟩
theorem open50_f{S:Spc} (O:SpcOk S) (hs:¬S.Sound):Ct cx o (.fn 170 [.p S.v]) [] (fun e h1=>CoE h1 e (.ptr 164 (wkC (.pv S.p0) (.pv S.p1) (.pv S.p2) (.pv S.p3) S.ver S.tr 2))):=by
 refine ct170 (ho _ _ _ (by decide) (by decide)) rfl ?_
 have hbox:∀ hh:List Ob,boxW hh 25 (.p S.v)=.wn (.ptr hh.length 0) (.cells 25 S.cells):=fun hh=>rfl
 have hbox2:∀ hh:List Ob,boxW hh 164 (.p (.agg [S.p0,S.p1,S.p2,S.p3,.int .i64 S.ver,.int .i64 S.tr,.int .i64 0]))=.wn (.ptr hh.length 0) (.cells 164 (S.cells++[.p (.int .i64 0)])):=fun hh=>rfl
 have ldS:∀ l:List Ob,load? cx (.cells 25 S.cells::l) 25 (.ptr 0 0)=some (.p S.v):=fun l=>(load_whole a25 s25 rfl rfl).trans rfl
 have bS:build? cx 164 [(0,.p S.v)]=_:=b164 _ _ _ _ _ _
 obtain⟨h1,p1,⟨cs1,p2,p3⟩,p4,p5,p6⟩:=need_cs ho (h:=[.cells 25 S.cells,.cells 164 (S.cells++[.p (.int .i64 0)])]) (j:=1) (c0:=.pv S.p0) (c1:=.pv S.p1) (c2:=.pv S.p2) (c3:=.pv S.p3) (ver:=S.ver) (tr:=S.tr) (E:=0) (b:=false) (e:=2) rfl (.cons (.p _) (.cons (.p _) (.cons (.p _) (.cons (.p _) (.cons (.p _) (.cons (.p _) (.cons (.p _) .nil)))))))
 have hn:needE false 0 2=2:=rfl
 rw[hn]at p1 p3
 have h2:¬((2:Int)=0):=by decide
 simp only[h2,decide_false]at p1
 simp only[sc170,sc170r0,sc170r1,sc170r2,sc170r4,↓rwS,rwT,rwG,Nat.reduceEqDiff,Nat.reduceAdd,reduceCtorEq,Nat.reduceLT,hbox,List.cons_append,List.nil_append,List.length_cons,List.length_nil,ldS,bS,hbox2,call59 ho O,Spc.soundB_f hs,callW_ret ext89 p1]
 exact .ptr p2 p3
theorem open50_t{S:Spc} (O:SpcOk S) (hs:S.Sound):Ct cx o (.fn 170 [.p S.v]) [] (fun e h1=>CoE h1 e (.ptr 164 (wkC (.own 62 10 S.pgs) (.pv S.p1) (.pv S.p2) (.pv S.p3) S.ver S.tr 0))):=by
 refine ct170 (ho _ _ _ (by decide) (by decide)) rfl ?_
 have hbox:∀ hh:List Ob,boxW hh 25 (.p S.v)=.wn (.ptr hh.length 0) (.cells 25 S.cells):=fun hh=>rfl
 have hbox2:∀ hh:List Ob,boxW hh 164 (.p (.agg [S.p0,S.p1,S.p2,S.p3,.int .i64 S.ver,.int .i64 S.tr,.int .i64 0]))=.wn (.ptr hh.length 0) (.cells 164 (S.cells++[.p (.int .i64 0)])):=fun hh=>rfl
 have ldS:∀ l:List Ob,load? cx (.cells 25 S.cells::l) 25 (.ptr 0 0)=some (.p S.v):=fun l=>(load_whole a25 s25 rfl rfl).trans rfl
 have bS:build? cx 164 [(0,.p S.v)]=_:=b164 _ _ _ _ _ _
 obtain⟨h1,p1,⟨cs1,p2,p3⟩,p4,p5,p6⟩:=need_cs ho (h:=[.cells 25 S.cells,.cells 164 (S.cells++[.p (.int .i64 0)])]) (j:=1) (c0:=.pv S.p0) (c1:=.pv S.p1) (c2:=.pv S.p2) (c3:=.pv S.p3) (ver:=S.ver) (tr:=S.tr) (E:=0) (b:=true) (e:=2) rfl (.cons (.p _) (.cons (.p _) (.cons (.p _) (.cons (.p _) (.cons (.p _) (.cons (.p _) (.cons (.p _) .nil)))))))
 have hn:needE true 0 2=0:=rfl
 rw[hn]at p1 p3
 simp only[decide_true]at p1
 have y0:hget h1 0=.cells 25 S.cells:=p5 0 (by simp) (by decide) rfl
 have fa0:∀ k,fieldAddr? cx 25 (.ptr k 0) 0=some (.ptr k 0):=fun k=>fieldAddr_ptr (m:=0) f25_0 s22
 have fb0:∀ k,fieldAddr? cx 164 (.ptr k 0) 0=some (.ptr k 0):=fun k=>fieldAddr_ptr (m:=5) f164_0 s25
 have hb0:∀ hh:List Ob,buildSlice? cx hh 22 0 []=_:=fun hh=>build0 u22 s62 a62 z62
 have z1:=(hget_appL [.row 62 10 [] true 0] 0 (hget_cells_lt y0)).trans y0
 have d0:load? cx (h1++[.row 62 10 [] true 0]) 22 (.ptr 0 0)=some (.p S.p0):=load_one a22 z1 rfl
 have l0:=O.l0
 obtain⟨v1,M1,a1,a2,a3',a4,a5,a6⟩:=app_any (c:=cx) (o:=o) (rd:=none) (h:=h1++[.row 62 10 [] true 0]) (i:=h1.length) (g:=0) (e:=62) (xs:=[]) (x:=.p S.p0) (hget_new _ _) s62 (by decide) (O.h0.sl _).elems (O.h0.sl []).szIsB (room_le room79 (by simp;omega))
 rw[List.nil_append]at a1
 have k1:Co1 M1 v1 (.own 62 10 S.pgs):=a1.co1 (by obtain⟨j,g,q,_⟩:=a2;rw[q];intro q;cases q)
 have p2':=hget_cells_lt p2
 have y1:hget M1 1=.cells 164 cs1:=by rw[a4 1 (by simp;omega) (by omega),hget_appL _ _ p2'];exact p2
 have keep:∀ {x c},Co1 h1 x c→Co1 M1 x c:=fun {x c} hx=>(hx.ext [.row 62 10 [] true 0]).keep fun j hj=>by
  have:=ids1_lt hx j hj
  exact a4 j (by simp;omega) (by omega)
 obtain⟨x0,x1,x2,x3,x4,x5,x6,rfl,q0,q1,q2,q3,q4,q5,q6⟩:=l2_7 p3
 have st:=store_cell (c:=cx) (off:=0) s22 y1 (k1.one_cell (.own _ _)) (show 0<7 by decide)
 have nf:flat (hget M1 1)=false:=by rw[y1];rfl
 have hl:=hget_cells_lt y1
 have fin:CoE (hset M1 1 (.cells 164 [v1,x1,x2,x3,x4,x5,x6])) (.ret (.ptr 1 0)) (.ptr 164 (wkC (.own 62 10 S.pgs) (.pv S.p1) (.pv S.p2) (.pv S.p3) S.ver S.tr 0)):=
  .ptr (by rw[hget_hset _ _ _ _ hl,if_pos rfl]) (.cons (k1.hset nf) (.cons ((keep q1).hset nf) (.cons ((keep q2).hset nf) (.cons ((keep q3).hset nf) (.cons ((keep q4).hset nf) (.cons ((keep q5).hset nf) (.cons ((keep q6).hset nf) .nil)))))))
 simp only[List.length_nil]at a6
 simp only[sc170,sc170r0,sc170r1,sc170r2,sc170r3,sc170r4,↓rwS,rwT,rwG,Nat.reduceEqDiff,Nat.reduceAdd,reduceCtorEq,Nat.reduceLT,hbox,List.cons_append,List.nil_append,List.length_cons,List.length_nil,ldS,bS,hbox2,call59 ho O,Spc.soundB_t hs,callW_ret ext89 p1,hb0,fa0,fb0,d0,appW_sl u22 u22,a6,st,List.set_cons_zero]
 exact fin
end
end Go.Proofs

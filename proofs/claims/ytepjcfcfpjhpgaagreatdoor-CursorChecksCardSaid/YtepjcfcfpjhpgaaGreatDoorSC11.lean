/- What is proved: contracts of Visits, of the program and of the specification. Conditions: paths of less than 100000 steps. -/
import Derived.Test.YtepjcfcfpjhpgaaGreatDoorSC10
set_option linter.all false
set_option maxRecDepth 100000
namespace Go.Proofs
open Go Go.Ai
section
variable {o:Orc} (ho:FreeT o)
include ho
theorem visits15{c d:Cur} (C:c.ok) (D:d.ok):Ct cx o (.fn 15 [.p c.V,.p d.V]) [] (fun e _=>e=.ret (.p (.int .i64 (visN c d d.l.length:Int)))):=by
 refine ct15 (ho _ _ _ (by decide) (by decide)) rfl ?_
 have hbox:∀ hh:List Ob,boxW hh 32 (.p c.V)=.wn (.ptr hh.length 0) (.cells 32 (c.cs.map .p)):=fun hh=>rfl
 have hbox2:∀ hh:List Ob,boxW hh 32 (.p d.V)=.wn (.ptr hh.length 0) (.cells 32 (d.cs.map .p)):=fun hh=>rfl
 have hc:∀ hh:List Ob,lenW cx hh 30 (.p c.pp)=_:=fun hh=>stp_len C.hp hh
 have hd:∀ hh:List Ob,lenW cx hh 30 (.p d.pp)=_:=fun hh=>stp_len D.hp hh
 have p0:load? cx [.cells 32 (c.cs.map .p),.cells 32 (d.cs.map .p),.map []] 30 (.ptr 0 20)=some (.p c.pp):=load_one a30 rfl rfl
 simp only[sc15r0,sc15r1,sc15r2,sc15r3,sc15r4,sc15r5,sc15r6,sc15r8,sc15r9,sc15r10,sc15r11,sc15r12,sc15r13,sc15r14,sc15r15,sc15r17,sc15,↓rwS,↓rwX,rwZ,rwT,rwG,Nat.reduceEqDiff,Nat.reduceAdd,reduceCtorEq,Nat.reduceLT,hbox,hbox2,List.cons_append,List.nil_append,List.length_cons,List.length_nil,opD_makeMap,cu_f3,p0,hc]
 have hln:=C.ln
 have hld:=D.ln
 refine xC_loop (fun m t h' dd r => ∃ (i : Nat) (ks : List Int), m = c.l.length - i ∧ i ≤ c.l.length ∧ (∀ q, q ∈ ks ↔ ∃ j, j < i ∧ (c.l.getD j Stp.z).no = q) ∧ hget h' 0 = .cells 32 (c.cs.map .p) ∧ hget h' 1 = .cells 32 (d.cs.map .p) ∧ hget h' 2 = .map (mp ks) ∧ dd = [] ∧ r = none ∧
  t.get 3=.ptr 1 0∧t.get 5=.map 2∧t.get 13=.p c.pp∧t.get 14=.p (.int .i64 (c.l.length:Int))∧t.get 15=.p (.int .i64 (i:Int))) c.l.length ?_ ?_
 ·refine⟨0,[],rfl,by omega,fun q=>⟨fun hq=>(by cases hq),fun⟨j,hj,_⟩=>(by omega)⟩,rfl,rfl,rfl,rfl,rfl,?_⟩
  simp only[↓rwA,rwB,rwG,Nat.reduceEqDiff,Nat.reduceAdd,reduceCtorEq,Nat.reduceLT,true_and]
  all_goals first|trivial|exact⟨rfl,rfl⟩|rfl
 ·rintro m t h' dd r ⟨i,ks,rfl,hi,hks,y0,y1,y2,rfl,rfl,t3,t5,t13,t14,t15⟩
  by_cases hlt:(i:Int)<(c.l.length:Int)
  ·have hil:i<c.l.length:=by omega
   have sa:=stp_at C.hp hil
   have w1:=one63 (i:=i) (by omega)
   have l0:=hget_cells_lt y0
   have l1:=hget_cells_lt y1
   have l2:2<h'.length:=by
    rcases Nat.lt_or_ge 2 h'.length with q|q
    ·exact q
    ·rw[hget_eq,List.getElem?_eq_none (by omega)]at y2;cases y2
   have z0:=(hget_appL [.cells 93 ((c.l.getD i Stp.z).cs.map .p)] _ l0).trans y0
   have z1:=(hget_appL [.cells 93 ((c.l.getD i Stp.z).cs.map .p)] _ l1).trans y1
   have z2:=(hget_appL [.cells 93 ((c.l.getD i Stp.z).cs.map .p)] _ l2).trans y2
   have e0:load? cx (h'++[.cells 93 ((c.l.getD i Stp.z).cs.map .p)]) 3 (.ptr h'.length 0)=some (.p (.int .i64 (c.l.getD i Stp.z).no)):=load_one a3 (hget_end _ _) rfl
   obtain⟨ks',hk',hu⟩:=upd_mp (k:=(c.l.getD i Stp.z).no) z2
   have lz2:2<(h'++[Ob.cells 93 ((c.l.getD i Stp.z).cs.map .p)]).length:=by rw[List.length_append];omega
   simp only[sc15r0,sc15r1,sc15r2,sc15r3,sc15r4,sc15r5,sc15r6,sc15l7,sc15r8,sc15r9,sc15r10,sc15r11,sc15r12,sc15r13,sc15r14,sc15r15,sc15l16,sc15r17,sc15,↓rwS,↓rwX,rwZ,rwT,rwG,Nat.reduceEqDiff,Nat.reduceAdd,reduceCtorEq,Nat.reduceLT,t3,t5,t13,t14,t15,hlt,decide_true,sa,stp_ld,z93,z93c,stp_st,hset_end,stp_f0,e0,opD_mapU,hu,w1,true_and]
   refine⟨_,?_,i+1,ks',rfl,by omega,fun q=>?_,?_,?_,?_,?_⟩
   ·omega
   ·rw[hk',hks]
    constructor
    ·rintro(rfl|⟨j,hj,rfl⟩)
     ·exact⟨i,by omega,rfl⟩
     ·exact⟨j,by omega,rfl⟩
    ·rintro⟨j,hj,rfl⟩
     by_cases q:j=i
     ·exact .inl (by rw[q])
     ·exact .inr ⟨j,by omega,rfl⟩
   ·rw[hget_hset _ _ _ _ lz2,if_neg (by decide)];exact z0
   ·rw[hget_hset _ _ _ _ lz2,if_neg (by decide)];exact z1
   ·rw[hget_hset _ _ _ _ lz2,if_pos rfl]
   ·first|exact⟨rfl,rfl⟩|trivial|exact⟨rfl,rfl,rfl⟩
  ·have hin:i=c.l.length:=by omega
   subst hin
   have q0:load? cx h' 30 (.ptr 1 20)=some (.p d.pp):=load_one a30 y1 rfl
   have hks2:∀ q,q∈ks↔metP c d 0 q:=fun q=>by
    rw[hks]
    exact⟨fun h=>.inl h,fun h=>by rcases h with h|⟨j,hj,_⟩;exact h;omega⟩
   simp only[sc15l7,sc15r0,sc15r1,sc15r2,sc15r3,sc15r4,sc15r5,sc15r6,sc15r8,sc15r9,sc15r10,sc15r11,sc15r12,sc15r13,sc15r14,sc15r15,sc15r17,sc15,↓rwS,↓rwX,rwZ,rwT,rwG,Nat.reduceEqDiff,Nat.reduceAdd,reduceCtorEq,Nat.reduceLT,t3,t5,t13,t14,t15,hlt,decide_false,cu_f3,q0,hd]
   refine xC_loop (fun m t h' dd r => ∃ (i : Nat) (ks : List Int), m = d.l.length - i ∧ i ≤ d.l.length ∧ (∀ q, q ∈ ks ↔ metP c d i q) ∧ hget h' 2 = .map (mp ks) ∧ dd = [] ∧ r = none ∧
    t.get 5=.map 2∧t.get 8=.p (.int .i64 (visN c d i:Int))∧t.get 24=.p d.pp∧t.get 25=.p (.int .i64 (d.l.length:Int))∧t.get 26=.p (.int .i64 (i:Int))) d.l.length ?_ ?_
   ·refine⟨0,ks,rfl,by omega,hks2,y2,rfl,rfl,?_⟩
    simp only[↓rwA,rwB,rwG,Nat.reduceEqDiff,Nat.reduceAdd,reduceCtorEq,Nat.reduceLT,t5,true_and]
    all_goals first|trivial|exact⟨rfl,rfl⟩|rfl
   ·rintro m u h2 dd r ⟨i,ks2,rfl,hi2,hm,v2,rfl,rfl,u5,u8,u24,u25,u26⟩
    by_cases hlt2:(i:Int)<(d.l.length:Int)
    ·have hil:i<d.l.length:=by omega
     have sa:=stp_at D.hp hil
     have w1:=one63 (i:=i) (by omega)
     have hvl:=visN_le (c:=c) (d:=d) i
     have w2:=one63 (i:=visN c d i) (by omega)
     have l2:2<h2.length:=by
      rcases Nat.lt_or_ge 2 h2.length with q|q
      ·exact q
      ·rw[hget_eq,List.getElem?_eq_none (by omega)]at v2;cases v2
     have z2:=(hget_appL [.cells 93 ((d.l.getD i Stp.z).cs.map .p)] _ l2).trans v2
     have e0:load? cx (h2++[.cells 93 ((d.l.getD i Stp.z).cs.map .p)]) 3 (.ptr h2.length 0)=some (.p (.int .i64 (d.l.getD i Stp.z).no)):=load_one a3 (hget_end _ _) rfl
     obtain⟨ks',hk',hu⟩:=upd_mp (k:=(d.l.getD i Stp.z).no) z2
     have hlk:=lookup_mp (k:=(d.l.getD i Stp.z).no) z2
     have lz2:2<(h2++[Ob.cells 93 ((d.l.getD i Stp.z).cs.map .p)]).length:=by rw[List.length_append];omega
     have hnext:∀ q,q∈ks'↔metP c d (i+1) q:=fun q=>by
      rw[hk',hm]
      constructor
      ·rintro(rfl|q1|⟨j,hj,rfl⟩)
       ·exact .inr ⟨i,by omega,rfl⟩
       ·exact .inl q1
       ·exact .inr ⟨j,by omega,rfl⟩
      ·rintro(q1|⟨j,hj,rfl⟩)
       ·exact .inr (.inl q1)
       ·by_cases q:j=i
        ·exact .inl (by rw[q])
        ·exact .inr (.inr ⟨j,by omega,rfl⟩)
     by_cases hmem:(d.l.getD i Stp.z).no∈ks2
     ·have hv:visN c d (i+1)=visN c d i:=visN_in ((hm _).1 hmem)
      have hmem':decide ((d.l.getD i Stp.z).no∈ks2)=true:=decide_eq_true hmem
      simp only[sc15r0,sc15r1,sc15r2,sc15r3,sc15r4,sc15r5,sc15r6,sc15l7,sc15r8,sc15r9,sc15r10,sc15r11,sc15r12,sc15r13,sc15r14,sc15r15,sc15l16,sc15r17,sc15,↓rwS,↓rwX,rwZ,rwT,rwG,Nat.reduceEqDiff,Nat.reduceAdd,reduceCtorEq,Nat.reduceLT,u5,u8,u24,u25,u26,hlt2,decide_true,sa,stp_ld,z93,z93c,stp_st,hset_end,stp_f0,e0,opD_mapU,opD_lookup,hlk,hmem',Bool.not_true,hu,w1,true_and]
      refine⟨_,?_,i+1,ks',rfl,by omega,hnext,?_,?_⟩
      ·omega
      ·rw[hget_hset _ _ _ _ lz2,if_pos rfl]
      ·rw[hv]
       first|exact⟨rfl,rfl⟩|trivial|exact⟨rfl,rfl,rfl⟩
     ·have hv:visN c d (i+1)=visN c d i+1:=visN_out (fun q=>hmem ((hm _).2 q))
      have hmem':decide ((d.l.getD i Stp.z).no∈ks2)=false:=decide_eq_false hmem
      simp only[sc15r0,sc15r1,sc15r2,sc15r3,sc15r4,sc15r5,sc15r6,sc15l7,sc15r8,sc15r9,sc15r10,sc15r11,sc15r12,sc15r13,sc15r14,sc15r15,sc15l16,sc15r17,sc15,↓rwS,↓rwX,rwZ,rwT,rwG,Nat.reduceEqDiff,Nat.reduceAdd,reduceCtorEq,Nat.reduceLT,u5,u8,u24,u25,u26,hlt2,decide_true,sa,stp_ld,z93,z93c,stp_st,hset_end,stp_f0,e0,opD_mapU,opD_lookup,hlk,hmem',Bool.not_false,hu,w1,w2,true_and]
      refine⟨_,?_,i+1,ks',rfl,by omega,hnext,?_,?_⟩
      ·omega
      ·rw[hget_hset _ _ _ _ lz2,if_pos rfl]
      ·rw[hv]
       first|exact⟨rfl,rfl⟩|trivial|exact⟨rfl,rfl,rfl⟩
    ·have hin:i=d.l.length:=by omega
     subst hin
     simp only[sc15r0,sc15r1,sc15r2,sc15r3,sc15r4,sc15r5,sc15r6,sc15l7,sc15r8,sc15r9,sc15r10,sc15r11,sc15r12,sc15r13,sc15r14,sc15r15,sc15l16,sc15r17,sc15,↓rwS,↓rwX,rwZ,rwT,rwG,Nat.reduceEqDiff,Nat.reduceAdd,reduceCtorEq,Nat.reduceLT,u5,u8,u24,u25,u26,hlt2,decide_false]
end
theorem bs23{hh:List Ob} {n:Int}:buildSlice? cx hh 23 1 [(0,.p (.int .i64 n))]=.wh (.sl hh.length 0 1 0 1) (hh++[.row 3 1 [.int .i64 n] true 0]):=by
 unfold buildSlice?
 simp only[u23,s3,a3,pureParts,pure1,zeros?,z3]
 have:(Nat.ble (1*(0+1)) 16777216&&allFit2 false (0+1) [(0,.int .i64 n)]&&allFit false (0+1) [PV.int .i64 0])=true:=by rfl
 show cond (Nat.ble (1*(0+1)) 16777216&&allFit2 false (0+1) [(0,.int .i64 n)]&&allFit false (0+1) [PV.int .i64 0]) _ _=_
 rw[this]
 simp only[cond,setAll,lnf_eq,forceN_eq,newRowH,List.length_cons,List.length_nil]
 rfl
theorem stp_fl{s:Stp} {h:List Ob}:∃ a,fieldAddr? cx 93 (.cptr s.V) 0=some a∧load? cx h 3 a=some (.p (.int .i64 s.no)):=by
 have H:Sl h 2 (.full 2 [s.V]) [s.V]:=.full _
 have:=sl_fld (c:=cx) (k:=0) H (show 0<1 by decide) f93_0 s3 a3 (w:=.int .i64 s.no) rfl (fun cs q=>by cases q)
 exact this
theorem app1{o:Orc} {h:List Ob} {v:AV} {l:List Int} {n:Int} (H:Own h 3 1 v (ints l)) (hv:∀ j∈ids1 v,2≤j) (hl:l.length<1000000) (h2:2≤h.length) :
  ∃ v' h',Own h' 3 1 v' (ints (l++[n]))∧(∀ j∈ids1 v',2≤j)∧h.length≤h'.length∧hget h' 0=hget h 0∧hget h' 1=hget h 1 ∧
   ∀ (op:Op) (dst:Option Tmp) (t:Tm) (d:List AD) (r:Option RM) (k:KP) (Q:Post),opW cx o none op dst t (h++[.row 3 1 [.int .i64 n] true 0]) d r (append? cx (h++[.row 3 1 [.int .i64 n] true 0]) 3 v (.sl h.length 0 1 0 1)) k Q=k (put dst v' t) h' d r:=by
 have hx:Sl (h++[.row 3 1 [.int .i64 n] true 0]) 1 (.sl h.length 0 1 0 1) [.int .i64 n]:=(Co1.own (hget_new _ _)).sl' (.own _ _)
 obtain⟨v',h',a1,a2,a3',a4,a5,a6⟩:=app_own (c:=cx) (o:=o) (rd:=none) (H.ext [.row 3 1 [.int .i64 n] true 0]) s3 (by decide) hx.elems hx.szIsB (by simp) (room_le room3 (by rw[ints_length];simp;omega))
 refine⟨v',h',by rw[ints_app];exact a1,fun j hj=>?_,?_,?_,?_,a6⟩
 ·rcases a5 j hj with q|q
  ·exact hv j q
  ·rw[List.length_append]at q;omega
 ·rw[List.length_append]at a2;omega
 ·rw[a3' 0 (by rw[List.length_append];omega) (fun q=>by have:=hv 0 q;omega),hget_appL _ _ (by omega)]
 ·rw[a3' 1 (by rw[List.length_append];omega) (fun q=>by have:=hv 1 q;omega),hget_appL _ _ (by omega)]
section
variable {o:Orc} (ho:FreeT o)
include ho
theorem visits16{c d:Cur} (C:c.ok) (D:d.ok) (hsc:c.l.length<100000) (hsd:d.l.length<100000):Ct cx o (.fn 16 [.p c.V,.p d.V]) [] (fun e _=>e=.ret (.p (.int .i64 (visN c d d.l.length:Int)))):=by
 refine ct16 (ho _ _ _ (by decide) (by decide)) rfl ?_
 have hbox:∀ hh:List Ob,boxW hh 32 (.p c.V)=.wn (.ptr hh.length 0) (.cells 32 (c.cs.map .p)):=fun hh=>rfl
 have hbox2:∀ hh:List Ob,boxW hh 32 (.p d.V)=.wn (.ptr hh.length 0) (.cells 32 (d.cs.map .p)):=fun hh=>rfl
 have hc:∀ hh:List Ob,lenW cx hh 30 (.p c.pp)=_:=fun hh=>stp_len C.hp hh
 have hd:∀ hh:List Ob,lenW cx hh 30 (.p d.pp)=_:=fun hh=>stp_len D.hp hh
 simp only[sc16r0,sc16r1,sc16r2,sc16r3,sc16r4,sc16r5,sc16r7,sc16r8,sc16r9,sc16r10,sc16r11,sc16r12,sc16r13,sc16d13_x,sc16r14,sc16r16,sc16r17,sc16r18,sc16r19,sc16r21,sc16,↓rwS,↓rwX,rwZ,rwT,rwG,Nat.reduceEqDiff,Nat.reduceAdd,reduceCtorEq,Nat.reduceLT,hbox,hbox2,List.cons_append,List.nil_append,List.length_cons,List.length_nil]
 refine xC_loop (fun m t h' dd r => ∃ (i : Nat) (ks : List Int) (v : AV), m = c.l.length - i ∧ i ≤ c.l.length ∧ ks.length = i ∧ (∀ q, q ∈ ks ↔ ∃ j, j < i ∧ (c.l.getD j Stp.z).no = q) ∧ hget h' 0 = .cells 32 (c.cs.map .p) ∧ hget h' 1 = .cells 32 (d.cs.map .p) ∧ 2 ≤ h'.length ∧ Own h' 3 1 v (ints ks) ∧ (∀ j ∈ ids1 v, 2 ≤ j) ∧ dd = [] ∧ r = none ∧
  t.get 2=.ptr 0 0∧t.get 3=.ptr 1 0∧t.get 5=v∧t.get 6=.p (.int .i64 (i:Int))) c.l.length ?_ ?_
 ·refine⟨0,[],.p .nils,rfl,by omega,rfl,fun q=>⟨fun hq=>(by cases hq),fun⟨j,hj,_⟩=>(by omega)⟩,rfl,rfl,by simp,.nil,fun j hj=>(by cases hj),rfl,rfl,?_⟩
  simp only[↓rwA,rwB,rwG,Nat.reduceEqDiff,Nat.reduceAdd,reduceCtorEq,Nat.reduceLT,true_and]
  all_goals first|trivial|exact⟨rfl,rfl⟩|rfl
 ·rintro m t h' dd r ⟨i,ks,v,rfl,hi,hkl,hks,y0,y1,hl2,hO,hv2,rfl,rfl,t2,t3,t5,t6⟩
  have p0:load? cx h' 30 (.ptr 0 20)=some (.p c.pp):=load_one a30 y0 rfl
  by_cases hlt:(i:Int)<(c.l.length:Int)
  ·have hil:i<c.l.length:=by omega
   have sa:=stp_at C.hp hil
   obtain⟨fa,ga,gl⟩:=stp_fl (s:=c.l.getD i Stp.z) (h:=h')
   have w1:=one63 (i:=i) (by omega)
   obtain⟨v',h2,n1,n2,n3,n4,n5,n6⟩:=app1 (o:=o) (n:=(c.l.getD i Stp.z).no) hO hv2 (by omega) hl2
   simp only[sc16l6,sc16r0,sc16r1,sc16r2,sc16r3,sc16r4,sc16r5,sc16r7,sc16r8,sc16r9,sc16r10,sc16r11,sc16r12,sc16r13,sc16d13_x,sc16r14,sc16r16,sc16r17,sc16r18,sc16r19,sc16r21,sc16,↓rwS,↓rwX,rwZ,rwT,rwG,Nat.reduceEqDiff,Nat.reduceAdd,reduceCtorEq,Nat.reduceLT,t2,t3,t5,t6,hlt,decide_true,cu_f3,p0,hc,sa,ga,gl,bs23,appW_sl u23 u23,n6,w1,true_and]
   refine⟨_,?_,i+1,ks++[(c.l.getD i Stp.z).no],v',rfl,by omega,by simp [hkl],fun q=>?_,by rw[n4];exact y0,by rw[n5];exact y1,by omega,n1,n2,?_⟩
   ·omega
   ·rw[List.mem_append,hks,List.mem_singleton]
    constructor
    ·rintro(⟨j,hj,rfl⟩|rfl)
     ·exact⟨j,by omega,rfl⟩
     ·exact⟨i,by omega,rfl⟩
    ·rintro⟨j,hj,rfl⟩
     by_cases q:j=i
     ·exact .inr (by rw[q])
     ·exact .inl ⟨j,by omega,rfl⟩
   ·first|exact⟨rfl,rfl⟩|trivial|exact⟨rfl,rfl,rfl⟩
  ·have hin:i=c.l.length:=by omega
   have hks2:∀ q,q∈ks↔metP c d 0 q:=fun q=>by
    rw[hks,hin]
    exact⟨fun h=>.inl h,fun h=>by rcases h with h|⟨j,hj,_⟩;exact h;omega⟩
   simp only[sc16l6,sc16r0,sc16r1,sc16r2,sc16r3,sc16r4,sc16r5,sc16r7,sc16r8,sc16r9,sc16r10,sc16r11,sc16r12,sc16r13,sc16d13_x,sc16r14,sc16r16,sc16r17,sc16r18,sc16r19,sc16r21,sc16,↓rwS,↓rwX,rwZ,rwT,rwG,Nat.reduceEqDiff,Nat.reduceAdd,reduceCtorEq,Nat.reduceLT,t2,t3,t5,t6,hlt,decide_false,cu_f3,p0,hc]
   refine xC_loop (fun m t h' dd r => ∃ (i : Nat) (ks : List Int) (v : AV), m = d.l.length - i ∧ i ≤ d.l.length ∧ ks.length ≤ c.l.length + i ∧ (∀ q, q ∈ ks ↔ metP c d i q) ∧ hget h' 0 = .cells 32 (c.cs.map .p) ∧ hget h' 1 = .cells 32 (d.cs.map .p) ∧ 2 ≤ h'.length ∧ Own h' 3 1 v (ints ks) ∧ (∀ j ∈ ids1 v, 2 ≤ j) ∧ dd = [] ∧ r = none ∧
    t.get 3=.ptr 1 0∧t.get 5=v∧t.get 7=.p (.int .i64 (visN c d i:Int))∧t.get 8=.p (.int .i64 (i:Int))) d.l.length ?_ ?_
   ·refine⟨0,ks,v,rfl,by omega,by omega,hks2,y0,y1,hl2,hO,hv2,rfl,rfl,?_⟩
    simp only[↓rwA,rwB,rwG,Nat.reduceEqDiff,Nat.reduceAdd,reduceCtorEq,Nat.reduceLT,t3,t5,true_and]
    all_goals first|trivial|exact⟨rfl,rfl⟩|rfl
   ·clear hks hks2 y0 y1 hl2 hO hv2 t2 t3 t5 t6 p0 hkl
    rintro m u h2 dd r ⟨i,ks,v,rfl,hi,hkl,hks,y0,y1,hl2,hO,hv2,rfl,rfl,t3,t5,t7,t8⟩
    have p0:load? cx h2 30 (.ptr 1 20)=some (.p d.pp):=load_one a30 y1 rfl
    by_cases hlt2:(i:Int)<(d.l.length:Int)
    ·have hil:i<d.l.length:=by omega
     have sa:=stp_at D.hp hil
     obtain⟨fa,ga,gl⟩:=stp_fl (s:=d.l.getD i Stp.z) (h:=h2)
     have w1:=one63 (i:=i) (by omega)
     have hvl:=visN_le (c:=c) (d:=d) i
     have w2:=one63 (i:=visN c d i) (by omega)
     have hlv:lenW cx h2 23 v=.w (.p (.int .i64 (ks.length:Int))):=by rw[hO.sl'.len u23,ints_length]
     simp only[sc16l20,sc16r0,sc16r1,sc16r2,sc16r3,sc16r4,sc16r5,sc16r7,sc16r8,sc16r9,sc16r10,sc16r11,sc16r12,sc16r13,sc16d13_x,sc16r14,sc16r16,sc16r17,sc16r18,sc16r19,sc16r21,sc16,↓rwS,↓rwX,rwZ,rwT,rwG,Nat.reduceEqDiff,Nat.reduceAdd,reduceCtorEq,Nat.reduceLT,t3,t5,t7,t8,hlt2,decide_true,cu_f3,p0,hd]
     refine xC_loop (fun m t h' dd r => ∃ (k : Nat), m = ks.length - k ∧ k ≤ ks.length ∧ h' = h2 ∧ dd = [] ∧ r = none ∧
      t.get 3=.ptr 1 0∧t.get 5=v∧t.get 7=.p (.int .i64 (visN c d i:Int))∧t.get 8=.p (.int .i64 (i:Int))∧t.get 9=.p (.bool (decide ((d.l.getD i Stp.z).no∈ks.take k)))∧t.get 10=.p (.int .i64 (k:Int))) ks.length ?_ ?_
     ·refine⟨0,rfl,by omega,rfl,rfl,rfl,?_⟩
      simp only[↓rwA,rwB,rwG,Nat.reduceEqDiff,Nat.reduceAdd,reduceCtorEq,Nat.reduceLT,t3,t5,t7,t8,true_and]
      all_goals first|trivial|exact⟨rfl,rfl⟩|(simp;done)|rfl
     ·rintro m2 w h3 dd r ⟨k,rfl,hk,rfl,rfl,rfl,s3',s5,s7,s8,s9,s10⟩
      by_cases hlt3:(k:Int)<(ks.length:Int)
      ·have hkl3:k<ks.length:=by omega
       obtain⟨ia,ld⟩:=int_at (k:=k) hO.sl' u23 hkl3
       have w3:=one63 (i:=k) (by omega)
       have htk:∀ q,q∈ks.take (k+1)↔q∈ks.take k∨ks.getD k 0=q:=fun q=>by
        rw[List.take_add_one,List.mem_append,List.getD,List.getElem?_eq_getElem hkl3]
        simp [eq_comm]
       by_cases hm:(d.l.getD i Stp.z).no∈ks.take k
       ·have hm':decide ((d.l.getD i Stp.z).no∈ks.take k)=true:=decide_eq_true hm
        have hm2:decide ((d.l.getD i Stp.z).no∈ks.take (k+1))=true:=decide_eq_true ((htk _).2 (.inl hm))
        rw[hm']at s9
        simp only[sc16l15,sc16r0,sc16r1,sc16r2,sc16r3,sc16r4,sc16r5,sc16r7,sc16r8,sc16r9,sc16r10,sc16r11,sc16r12,sc16r13,sc16d13_x,sc16r14,sc16r16,sc16r17,sc16r18,sc16r19,sc16r21,sc16,↓rwS,↓rwX,rwZ,rwT,rwG,Nat.reduceEqDiff,Nat.reduceAdd,reduceCtorEq,Nat.reduceLT,↓rwC,rwD,rwI,Nat.reduceSub,Nat.reduceLeDiff,LW_bt,LW_bf,s3',s5,s7,s8,s9,s10,hlv,hlt3,decide_true,cu_f3,p0,hd,w3,true_and]
        refine⟨_,?_,k+1,rfl,by omega,?_⟩
        ·omega
        ·rw[hm2]
         first|exact⟨rfl,rfl⟩|trivial|exact⟨rfl,rfl,rfl⟩
       ·have hm':decide ((d.l.getD i Stp.z).no∈ks.take k)=false:=decide_eq_false hm
        have hm2:decide ((d.l.getD i Stp.z).no∈ks.take (k+1))=decide (ks.getD k 0=(d.l.getD i Stp.z).no):=by
         apply decide_eq_decide.2
         rw[htk]
         exact⟨fun h=>h.resolve_left hm,.inr⟩
        rw[hm']at s9
        simp only[sc16l15,sc16r0,sc16r1,sc16r2,sc16r3,sc16r4,sc16r5,sc16r7,sc16r8,sc16r9,sc16r10,sc16r11,sc16r12,sc16r13,sc16d13_x,sc16r14,sc16r16,sc16r17,sc16r18,sc16r19,sc16r21,sc16,↓rwS,↓rwX,rwZ,rwT,rwG,Nat.reduceEqDiff,Nat.reduceAdd,reduceCtorEq,Nat.reduceLT,↓rwC,rwD,rwI,Nat.reduceSub,Nat.reduceLeDiff,LW_bt,LW_bf,s3',s5,s7,s8,s9,s10,hlv,hlt3,decide_true,cu_f3,p0,hd,ia,ld,sa,ga,gl,w3,true_and]
        refine⟨_,?_,k+1,rfl,by omega,?_⟩
        ·omega
        ·rw[hm2]
         first|exact⟨rfl,rfl⟩|trivial|exact⟨rfl,rfl,rfl⟩
      ·have hkn:k=ks.length:=by omega
       rw[hkn,List.take_length]at s9
       by_cases hmem:(d.l.getD i Stp.z).no∈ks
       ·have hv:visN c d (i+1)=visN c d i:=visN_in ((hks _).1 hmem)
        have hm':decide ((d.l.getD i Stp.z).no∈ks)=true:=decide_eq_true hmem
        rw[hm']at s9
        simp only[sc16l15,sc16r0,sc16r1,sc16r2,sc16r3,sc16r4,sc16r5,sc16r7,sc16r8,sc16r9,sc16r10,sc16r11,sc16r12,sc16r13,sc16d13_x,sc16r14,sc16r16,sc16r17,sc16r18,sc16r19,sc16r21,sc16,↓rwS,↓rwX,rwZ,rwT,rwG,Nat.reduceEqDiff,Nat.reduceAdd,reduceCtorEq,Nat.reduceLT,s3',s5,s7,s8,s9,s10,hlv,hlt3,decide_false,Bool.not_true,w1,true_and]
        refine⟨_,?_,i+1,ks,v,rfl,by omega,by omega,fun q=>?_,y0,y1,hl2,hO,hv2,?_⟩
        ·omega
        ·rw[hks]
         constructor
         ·rintro(q1|⟨j,hj,rfl⟩)
          ·exact .inl q1
          ·exact .inr ⟨j,by omega,rfl⟩
         ·rintro(q1|⟨j,hj,rfl⟩)
          ·exact .inl q1
          ·by_cases q:j=i
           ·rw[q];exact(hks _).1 hmem
           ·exact .inr ⟨j,by omega,rfl⟩
        ·rw[hv]
         first|exact⟨rfl,rfl⟩|trivial|exact⟨rfl,rfl,rfl⟩
       ·have hv:visN c d (i+1)=visN c d i+1:=visN_out (fun q=>hmem ((hks _).2 q))
        have hm':decide ((d.l.getD i Stp.z).no∈ks)=false:=decide_eq_false hmem
        obtain⟨v',h4,n1,n2,n3,n4,n5,n6⟩:=app1 (o:=o) (n:=(d.l.getD i Stp.z).no) hO hv2 (by omega) hl2
        rw[hm']at s9
        simp only[sc16l15,sc16r0,sc16r1,sc16r2,sc16r3,sc16r4,sc16r5,sc16r7,sc16r8,sc16r9,sc16r10,sc16r11,sc16r12,sc16r13,sc16d13_x,sc16r14,sc16r16,sc16r17,sc16r18,sc16r19,sc16r21,sc16,↓rwS,↓rwX,rwZ,rwT,rwG,Nat.reduceEqDiff,Nat.reduceAdd,reduceCtorEq,Nat.reduceLT,s3',s5,s7,s8,s9,s10,hlv,hlt3,decide_false,Bool.not_false,cu_f3,p0,sa,ga,gl,bs23,appW_sl u23 u23,n6,w1,w2,true_and]
        refine⟨_,?_,i+1,ks++[(d.l.getD i Stp.z).no],v',rfl,by omega,by simp;omega,fun q=>?_,by rw[n4];exact y0,by rw[n5];exact y1,by omega,n1,n2,?_⟩
        ·omega
        ·rw[List.mem_append,hks,List.mem_singleton]
         constructor
         ·rintro((q1|⟨j,hj,rfl⟩)|rfl)
          ·exact .inl q1
          ·exact .inr ⟨j,by omega,rfl⟩
          ·exact .inr ⟨i,by omega,rfl⟩
         ·rintro(q1|⟨j,hj,rfl⟩)
          ·exact .inl (.inl q1)
          ·by_cases q:j=i
           ·exact .inr (by rw[q])
           ·exact .inl (.inr ⟨j,by omega,rfl⟩)
        ·rw[hv]
         first|exact⟨rfl,rfl⟩|trivial|exact⟨rfl,rfl,rfl⟩
    ·have hin:i=d.l.length:=by omega
     subst hin
     simp only[sc16l20,sc16r0,sc16r1,sc16r2,sc16r3,sc16r4,sc16r5,sc16r7,sc16r8,sc16r9,sc16r10,sc16r11,sc16r12,sc16r13,sc16d13_x,sc16r14,sc16r16,sc16r17,sc16r18,sc16r19,sc16r21,sc16,↓rwS,↓rwX,rwZ,rwT,rwG,Nat.reduceEqDiff,Nat.reduceAdd,reduceCtorEq,Nat.reduceLT,t3,t5,t7,t8,hlt2,decide_false,cu_f3,p0,hd]
end
end Go.Proofs

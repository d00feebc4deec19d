/- What is proved: contracts of the law's bounds; the law's body upon the interpreter ('law3'). Conditions: what is given has the shapes of its types. -/
import Derived.Test.YtepjcfcfpjhpgaaGreatDoorSC11
set_option linter.all false
set_option maxRecDepth 100000
namespace Go.Proofs
open Go Go.Ai
theorem u65:cx.under 65=some (.slice 32):=by kernel_rfl
def Cur.z:Cur:=curAt Tre.z 0
def thinP(cs:List Cur):Prop:=∀ k,k<cs.length→((cs.getD k Cur.z).l.length:Int)≤60∧((cs.getD k Cur.z).ky.length:Int)≤100
theorem cur_d{cs:List Cur} {k:Nat} (hk:k<cs.length):(cs.map Cur.V).getD k .nilp=(cs.getD k Cur.z).V:=by simp [List.getD,hk]
section
variable {o:Orc} (ho:FreeT o)
include ho
open Classical in
theorem thin6{h:List Ob} {v:AV} {cs:List Cur} (H:Sl h 21 v (cs.map Cur.V)) (hl:cs.length<1000000) (hC:∀ c∈cs,SlQ 2 c.pp (c.l.map Stp.V)):Ct cx o (.fn 6 [v]) h (fun e h1=>h1=h∧e=.ret (.p (.bool (decide (thinP cs))))):=by
 refine ct6 (ho _ _ _ (by decide) (by decide)) rfl ?_
 simp only[sc6r0,sc6r1,sc6r2,sc6r3,sc6r4,sc6r5,sc6r7,sc6,↓rwS,↓rwX,rwZ,rwT,rwG,Nat.reduceEqDiff,Nat.reduceAdd,reduceCtorEq,Nat.reduceLT]
 have hlen:lenW cx h 65 v=.w (.p (.int .i64 (cs.length:Int))):=by rw[H.len u65,List.length_map]
 refine xC_loop (fun m t h' d r=>∃ i:Nat,m=cs.length-i∧i≤cs.length∧(∀ k,k<i→((cs.getD k Cur.z).l.length:Int)≤60∧((cs.getD k Cur.z).ky.length:Int)≤100)∧h'=h∧d=[]∧r=none∧t.get 0=v∧t.get 3=.p (.int .i64 (i:Int))) cs.length ?_ ?_
 ·refine⟨0,rfl,by omega,fun k hk=>(by omega),rfl,rfl,rfl,?_⟩
  simp only[↓rwA,rwB,rwG,Nat.reduceEqDiff,Nat.reduceAdd,reduceCtorEq,Nat.reduceLT,true_and]
  all_goals first|trivial|exact⟨rfl,rfl⟩|rfl
 ·rintro m t h' d r ⟨i,rfl,hi,hok,rfl,rfl,rfl,t0,t3⟩
  by_cases hlt:(i:Int)<(cs.length:Int)
  ·have hil:i<cs.length:=by omega
   have hkm:i<(cs.map Cur.V).length:=by rw[List.length_map];exact hil
   have ia:indexAddr? cx 65 v (.p (.int .i64 (i:Int)))=some (rdS v i):=by
    have:=H.at (sz:=20) (j:=.i64) (i:=(i:Int)) u65 s32 (by omega) (by rw[List.length_map];omega)
    simpa using this
   have hc:SlQ 2 (cs.getD i Cur.z).pp ((cs.getD i Cur.z).l.map Stp.V):=hC _ (by rw[List.getD,List.getElem?_eq_getElem hil];exact List.getElem_mem hil)
   obtain⟨fa,ga,gl⟩:=sl_fld H hkm f32_3 s30 a30 (w:=(cs.getD i Cur.z).pp) (by rw[cur_d hil];rfl) (fun cs q=>slq_na hc q)
   obtain⟨fb,gb,glb⟩:=sl_fld H hkm f32_2 s9 a9 (w:=.str (cs.getD i Cur.z).ky) (by rw[cur_d hil];rfl) (fun cs q=>by cases q)
   have hlp:∀ hh:List Ob,lenW cx hh 30 (.p (cs.getD i Cur.z).pp)=_:=fun hh=>stp_len hc hh
   have w1:=one63 (i:=i) (by omega)
   by_cases j1:(60:Int)<((cs.getD i Cur.z).l.length:Int)
   ·have hn:decide (thinP cs)=false:=decide_eq_false (fun q=>by have:=(q i hil).1;omega)
    have j1':decide ((60:Int)<((cs.getD i Cur.z).l.length:Int))=true:=decide_eq_true j1
    simp only[sc6l6,sc6r0,sc6r1,sc6r2,sc6r3,sc6r4,sc6r5,sc6r7,sc6,↓rwS,↓rwX,rwZ,rwT,rwG,Nat.reduceEqDiff,Nat.reduceAdd,reduceCtorEq,Nat.reduceLT,t0,t3,hlen,hlt,decide_true,ia,ga,gl,hlp,j1',hn]
    all_goals first|trivial|exact⟨rfl,rfl⟩|exact⟨trivial,rfl⟩|rfl
   have j1':decide ((60:Int)<((cs.getD i Cur.z).l.length:Int))=false:=decide_eq_false j1
   by_cases j2:(100:Int)<((cs.getD i Cur.z).ky.length:Int)
   ·have hn:decide (thinP cs)=false:=decide_eq_false (fun q=>by have:=(q i hil).2;omega)
    have j2':decide ((100:Int)<((cs.getD i Cur.z).ky.length:Int))=true:=decide_eq_true j2
    simp only[sc6l6,sc6r0,sc6r1,sc6r2,sc6r3,sc6r4,sc6r5,sc6r7,sc6,↓rwS,↓rwX,rwZ,rwT,rwG,Nat.reduceEqDiff,Nat.reduceAdd,reduceCtorEq,Nat.reduceLT,t0,t3,hlen,hlt,decide_true,ia,ga,gl,gb,glb,hlp,len_str u9,j1',j2',hn]
    all_goals first|trivial|exact⟨rfl,rfl⟩|exact⟨trivial,rfl⟩|rfl
   have j2':decide ((100:Int)<((cs.getD i Cur.z).ky.length:Int))=false:=decide_eq_false j2
   simp only[sc6l6,sc6r0,sc6r1,sc6r2,sc6r3,sc6r4,sc6r5,sc6r7,sc6,↓rwS,↓rwX,rwZ,rwT,rwG,Nat.reduceEqDiff,Nat.reduceAdd,reduceCtorEq,Nat.reduceLT,t0,t3,hlen,hlt,decide_true,ia,ga,gl,gb,glb,hlp,len_str u9,j1',j2',w1,true_and]
   refine⟨_,?_,i+1,rfl,by omega,fun k hk=>?_,?_⟩
   ·omega
   ·by_cases q:k=i
    ·rw[q];exact⟨by omega,by omega⟩
    ·exact hok k (by omega)
   ·first|exact⟨rfl,rfl⟩|trivial|rfl
  ·have hin:i=cs.length:=by omega
   have hn:decide (thinP cs)=true:=decide_eq_true (fun k hk=>hok k (by omega))
   simp only[sc6l6,sc6r0,sc6r1,sc6r2,sc6r3,sc6r4,sc6r5,sc6r7,sc6,↓rwS,↓rwX,rwZ,rwT,rwG,Nat.reduceEqDiff,Nat.reduceAdd,reduceCtorEq,Nat.reduceLT,t0,t3,hlen,hlt,decide_false,hn]
   all_goals first|trivial|exact⟨rfl,rfl⟩|exact⟨trivial,rfl⟩|rfl
end
theorem ee_v{e:Ent}:fieldAddr? cx 64 (.cptr e.V) 1=some (.cptr (.str e.v)):=by kernel_rfl
def pgSm(g:Pg):Prop:=(g.es.length:Int)≤60∧(g.dt.length:Int)≤600∧(g.fs.length:Int)≤20∧∀ j,j<g.es.length→((g.es.getD j Ent.z).k.length:Int)≤100∧((g.es.getD j Ent.z).v.length:Int)≤200
def smallP(S:Spc) (gs:List Pg):Prop:=(gs.length:Int)≤300∧(S.fr.length:Int)≤400∧(S.fs.length:Int)≤400∧(S.gn.length:Int)≤400∧∀ k,k<gs.length→pgSm (gs.getD k Pg.z)
section
variable {o:Orc} (ho:FreeT o)
include ho
open Classical in
theorem small5{S:Spc} {gs:List Pg} (h0:SlP 10 S.p0 (gs.map Pg.V)) (h1:SlP 1 S.p1 (ints S.fr)) (h2:SlP 1 S.p2 (ints S.fs)) (h3:SlP 1 S.p3 (ints S.gn)) (hg:∀ g∈gs,SlQ 22 g.ep (g.es.map Ent.V)∧SlQ 2 g.fp (g.fs.map Frd.V)) :
  Ct cx o (.fn 5 [.p S.v]) [] (fun e _=>e=.ret (.p (.bool (decide (smallP S gs))))):=by
 refine ct5 (ho _ _ _ (by decide) (by decide)) rfl ?_
 have hbox:∀ hh:List Ob,boxW hh 25 (.p S.v)=.wn (.ptr hh.length 0) (.cells 25 S.cells):=fun hh=>rfl
 have n0:∀ hh:List Ob,lenW cx hh 22 (.p S.p0)=.w (.p (.int .i64 (gs.length:Int))):=fun hh=>by rw[(h0.sl hh).len u22,List.length_map]
 have n1:∀ hh:List Ob,lenW cx hh 23 (.p S.p1)=.w (.p (.int .i64 (S.fr.length:Int))):=fun hh=>by rw[(h1.sl hh).len u23,ints_length]
 have n2:∀ hh:List Ob,lenW cx hh 23 (.p S.p2)=.w (.p (.int .i64 (S.fs.length:Int))):=fun hh=>by rw[(h2.sl hh).len u23,ints_length]
 have n3:∀ hh:List Ob,lenW cx hh 23 (.p S.p3)=.w (.p (.int .i64 (S.gn.length:Int))):=fun hh=>by rw[(h3.sl hh).len u23,ints_length]
 have d0:∀ {hh:List Ob},hget hh 0=.cells 25 S.cells→load? cx hh 22 (.ptr 0 0)=some (.p S.p0):=fun q=>load_one a22 q rfl
 have e0:=d0 (hh:=[.cells 25 S.cells]) rfl
 have e1:load? cx [.cells 25 S.cells] 23 (.ptr 0 1)=some (.p S.p1):=load_one a23 rfl rfl
 have e2:load? cx [.cells 25 S.cells] 23 (.ptr 0 2)=some (.p S.p2):=load_one a23 rfl rfl
 have e3:load? cx [.cells 25 S.cells] 23 (.ptr 0 3)=some (.p S.p3):=load_one a23 rfl rfl
 have fa2:∀ k,fieldAddr? cx 25 (.ptr k 0) 2=some (.ptr k 2):=fun k=>fieldAddr_ptr (m:=0) f25_2 s23
 have fa3:∀ k,fieldAddr? cx 25 (.ptr k 0) 3=some (.ptr k 3):=fun k=>fieldAddr_ptr (m:=0) f25_3 s23
 have fa0':∀ k,fieldAddr? cx 25 (.ptr k 0) 0=some (.ptr k 0):=fun k=>fieldAddr_ptr (m:=0) f25_0 s22
 have fa1':∀ k,fieldAddr? cx 25 (.ptr k 0) 1=some (.ptr k 1):=fun k=>fieldAddr_ptr (m:=0) f25_1 s23
 have bad:∀ {b:Bool},b=true→(b=true→¬smallP S gs)→AEnd.ret (.p (.bool false))=.ret (.p (.bool (decide (smallP S gs)))):=fun q w=>by rw[decide_eq_false (w q)]
 by_cases j0:(300:Int)<(gs.length:Int)
 ·have hn:decide (smallP S gs)=false:=decide_eq_false (fun q=>by have:=q.1;omega)
  have j0':decide ((300:Int)<(gs.length:Int))=true:=decide_eq_true j0
  simp only[sc5r0,sc5r1,sc5r2,sc5r3,sc5r4,sc5r5,sc5r6,sc5r7,sc5r8,sc5r9,sc5r10,sc5r11,sc5r12,sc5r14,sc5r16,sc5,↓rwS,↓rwX,rwZ,rwT,rwG,Nat.reduceEqDiff,Nat.reduceAdd,reduceCtorEq,Nat.reduceLT,hbox,List.nil_append,List.length_nil,fa0',fa1',fa2,fa3,e0,e1,e2,e3,n0,n1,n2,n3,j0',hn]
 have j0':decide ((300:Int)<(gs.length:Int))=false:=decide_eq_false j0
 by_cases j1:(400:Int)<(S.fr.length:Int)
 ·have hn:decide (smallP S gs)=false:=decide_eq_false (fun q=>by have:=q.2.1;omega)
  have j1':decide ((400:Int)<(S.fr.length:Int))=true:=decide_eq_true j1
  simp only[sc5r0,sc5r1,sc5r2,sc5r3,sc5r4,sc5r5,sc5r6,sc5r7,sc5r8,sc5r9,sc5r10,sc5r11,sc5r12,sc5r14,sc5r16,sc5,↓rwS,↓rwX,rwZ,rwT,rwG,Nat.reduceEqDiff,Nat.reduceAdd,reduceCtorEq,Nat.reduceLT,hbox,List.nil_append,List.length_nil,fa0',fa1',fa2,fa3,e0,e1,e2,e3,n0,n1,n2,n3,j0',j1',hn]
 have j1':decide ((400:Int)<(S.fr.length:Int))=false:=decide_eq_false j1
 by_cases j2:(400:Int)<(S.fs.length:Int)
 ·have hn:decide (smallP S gs)=false:=decide_eq_false (fun q=>by have:=q.2.2.1;omega)
  have j2':decide ((400:Int)<(S.fs.length:Int))=true:=decide_eq_true j2
  simp only[sc5r0,sc5r1,sc5r2,sc5r3,sc5r4,sc5r5,sc5r6,sc5r7,sc5r8,sc5r9,sc5r10,sc5r11,sc5r12,sc5r14,sc5r16,sc5,↓rwS,↓rwX,rwZ,rwT,rwG,Nat.reduceEqDiff,Nat.reduceAdd,reduceCtorEq,Nat.reduceLT,hbox,List.nil_append,List.length_nil,fa0',fa1',fa2,fa3,e0,e1,e2,e3,n0,n1,n2,n3,j0',j1',j2',hn]
 have j2':decide ((400:Int)<(S.fs.length:Int))=false:=decide_eq_false j2
 by_cases j3:(400:Int)<(S.gn.length:Int)
 ·have hn:decide (smallP S gs)=false:=decide_eq_false (fun q=>by have:=q.2.2.2.1;omega)
  have j3':decide ((400:Int)<(S.gn.length:Int))=true:=decide_eq_true j3
  simp only[sc5r0,sc5r1,sc5r2,sc5r3,sc5r4,sc5r5,sc5r6,sc5r7,sc5r8,sc5r9,sc5r10,sc5r11,sc5r12,sc5r14,sc5r16,sc5,↓rwS,↓rwX,rwZ,rwT,rwG,Nat.reduceEqDiff,Nat.reduceAdd,reduceCtorEq,Nat.reduceLT,hbox,List.nil_append,List.length_nil,fa0',fa1',fa2,fa3,e0,e1,e2,e3,n0,n1,n2,n3,j0',j1',j2',j3',hn]
 have j3':decide ((400:Int)<(S.gn.length:Int))=false:=decide_eq_false j3
 simp only[sc5r0,sc5r1,sc5r2,sc5r3,sc5r4,sc5r5,sc5r6,sc5r7,sc5r8,sc5r9,sc5r10,sc5r11,sc5r12,sc5r14,sc5r16,sc5,↓rwS,↓rwX,rwZ,rwT,rwG,Nat.reduceEqDiff,Nat.reduceAdd,reduceCtorEq,Nat.reduceLT,hbox,List.nil_append,List.length_nil,fa0',fa1',fa2,fa3,e0,e1,e2,e3,n0,n1,n2,n3,j0',j1',j2',j3']
 refine xC_loop (fun m t h' d r=>∃ i:Nat,m=gs.length-i∧i≤gs.length∧(∀ k,k<i→pgSm (gs.getD k Pg.z))∧hget h' 0=.cells 25 S.cells∧d=[]∧r=none∧t.get 1=.ptr 0 0∧t.get 3=.p (.int .i64 (i:Int))) gs.length ?_ ?_
 ·refine⟨0,rfl,by omega,fun k hk=>(by omega),rfl,rfl,rfl,?_⟩
  simp only[↓rwA,rwB,rwG,Nat.reduceEqDiff,Nat.reduceAdd,reduceCtorEq,Nat.reduceLT,true_and]
  all_goals first|trivial|exact⟨rfl,rfl⟩|rfl
 ·rintro m t h' d r ⟨i,rfl,hi,hok,y0,rfl,rfl,t1,t3⟩
  have f0:=d0 y0
  by_cases hlt:(i:Int)<(gs.length:Int)
  ·have hil:i<gs.length:=by omega
   have hS0:=h0.sl h'
   obtain⟨ia,ld⟩:=pg_at (no:=(i:Int)) hS0 (by omega) hlt
   rw[Int.toNat_natCast]at ia ld
   have hgm:=hg _ (gs_mem hil)
   generalize hge:gs.getD i Pg.z=g at *
   have hle:∀ hh:List Ob,lenW cx hh 59 (.p g.ep)=_:=fun hh=>ent_len hgm.1 hh
   have hlf:∀ hh:List Ob,lenW cx hh 60 (.p g.fp)=_:=fun hh=>frd_len hgm.2 hh
   have k6:load? cx (h'++[g.c]) 59 (.ptr h'.length 6)=some (.p g.ep):=load_one a59 (hget_end _ _) rfl
   have k8:load? cx (h'++[g.c]) 9 (.ptr h'.length 8)=some (.p (.str g.dt)):=load_one a9 (hget_end _ _) rfl
   have k9:load? cx (h'++[g.c]) 60 (.ptr h'.length 9)=some (.p g.fp):=load_one a60 (hget_end _ _) rfl
   have w1:=one63 (i:=i) (by omega)
   have hsm:smallP S gs→pgSm g:=fun q=>by have:=q.2.2.2.2 i hil;rw[hge]at this;exact this
   have z0:=(hget_appL [g.c] 0 (hget_cells_lt y0)).trans y0
   by_cases b0:(60:Int)<(g.es.length:Int)
   ·have hn:decide (smallP S gs)=false:=decide_eq_false (fun q=>by have:=(hsm q).1;omega)
    have b0':=decide_eq_true b0
    simp only[sc5l15,sc5r0,sc5r1,sc5r2,sc5r3,sc5r4,sc5r5,sc5r6,sc5r7,sc5r8,sc5r9,sc5r10,sc5r11,sc5r12,sc5r14,sc5r16,sc5,↓rwS,↓rwX,rwZ,rwT,rwG,Nat.reduceEqDiff,Nat.reduceAdd,reduceCtorEq,Nat.reduceLT,t1,t3,fa0',f0,n0,hlt,decide_true,ia,ld,zpg,zpg_c,pe_st,hset_end,pg_f6,pg_f8,pg_f9,k6,k8,k9,hle,hlf,len_str u9,b0',hn]
   have b0':=decide_eq_false b0
   by_cases b1:(600:Int)<(g.dt.length:Int)
   ·have hn:decide (smallP S gs)=false:=decide_eq_false (fun q=>by have:=(hsm q).2.1;omega)
    have b1':=decide_eq_true b1
    simp only[sc5l15,sc5r0,sc5r1,sc5r2,sc5r3,sc5r4,sc5r5,sc5r6,sc5r7,sc5r8,sc5r9,sc5r10,sc5r11,sc5r12,sc5r14,sc5r16,sc5,↓rwS,↓rwX,rwZ,rwT,rwG,Nat.reduceEqDiff,Nat.reduceAdd,reduceCtorEq,Nat.reduceLT,t1,t3,fa0',f0,n0,hlt,decide_true,ia,ld,zpg,zpg_c,pe_st,hset_end,pg_f6,pg_f8,pg_f9,k6,k8,k9,hle,hlf,len_str u9,b0',b1',hn]
   have b1':=decide_eq_false b1
   by_cases b2:(20:Int)<(g.fs.length:Int)
   ·have hn:decide (smallP S gs)=false:=decide_eq_false (fun q=>by have:=(hsm q).2.2.1;omega)
    have b2':=decide_eq_true b2
    simp only[sc5l15,sc5r0,sc5r1,sc5r2,sc5r3,sc5r4,sc5r5,sc5r6,sc5r7,sc5r8,sc5r9,sc5r10,sc5r11,sc5r12,sc5r14,sc5r16,sc5,↓rwS,↓rwX,rwZ,rwT,rwG,Nat.reduceEqDiff,Nat.reduceAdd,reduceCtorEq,Nat.reduceLT,t1,t3,fa0',f0,n0,hlt,decide_true,ia,ld,zpg,zpg_c,pe_st,hset_end,pg_f6,pg_f8,pg_f9,k6,k8,k9,hle,hlf,len_str u9,b0',b1',b2',hn]
   have b2':=decide_eq_false b2
   simp only[sc5l15,sc5r0,sc5r1,sc5r2,sc5r3,sc5r4,sc5r5,sc5r6,sc5r7,sc5r8,sc5r9,sc5r10,sc5r11,sc5r12,sc5r14,sc5r16,sc5,↓rwS,↓rwX,rwZ,rwT,rwG,Nat.reduceEqDiff,Nat.reduceAdd,reduceCtorEq,Nat.reduceLT,t1,t3,fa0',f0,n0,hlt,decide_true,ia,ld,zpg,zpg_c,pe_st,hset_end,pg_f6,pg_f8,pg_f9,k6,k8,k9,hle,hlf,len_str u9,b0',b1',b2']
   refine xC_loop (fun m t h2 d r=>∃ j:Nat,m=g.es.length-j∧j≤g.es.length∧(∀ k,k<j→((g.es.getD k Ent.z).k.length:Int)≤100∧((g.es.getD k Ent.z).v.length:Int)≤200)∧h2=h'++[g.c]∧d=[]∧r=none∧t.get 1=.ptr 0 0∧t.get 3=.p (.int .i64 (i:Int))∧t.get 4=.ptr h'.length 0∧t.get 5=.p (.int .i64 (j:Int))) g.es.length ?_ ?_
   ·refine⟨0,rfl,by omega,fun k hk=>(by omega),rfl,rfl,rfl,?_⟩
    simp only[↓rwA,rwB,rwG,Nat.reduceEqDiff,Nat.reduceAdd,reduceCtorEq,Nat.reduceLT,t1,t3,true_and]
    all_goals first|trivial|exact⟨rfl,rfl⟩|rfl
   ·rintro m u h2 d r ⟨j,rfl,hj,hjk,rfl,rfl,rfl,u1,u3,u4,u5⟩
    by_cases hlt2:(j:Int)<(g.es.length:Int)
    ·have hjl:j<g.es.length:=by omega
     have ea:=ent_at hgm.1 hjl
     have w2:=one63 (i:=j) (by omega)
     by_cases c0:(100:Int)<((g.es.getD j Ent.z).k.length:Int)
     ·have hn:decide (smallP S gs)=false:=decide_eq_false (fun q=>by have:=((hsm q).2.2.2 j hjl).1;omega)
      have c0':=decide_eq_true c0
      simp only[sc5l13,sc5r0,sc5r1,sc5r2,sc5r3,sc5r4,sc5r5,sc5r6,sc5r7,sc5r8,sc5r9,sc5r10,sc5r11,sc5r12,sc5r14,sc5r16,sc5,↓rwS,↓rwX,rwZ,rwT,rwG,Nat.reduceEqDiff,Nat.reduceAdd,reduceCtorEq,Nat.reduceLT,u1,u3,u4,u5,hle,hlt2,decide_true,pg_f6,k6,ea,ee_k,ee_kl,ee_v,len_str u9,c0',hn]
     have c0':=decide_eq_false c0
     by_cases c1:(200:Int)<((g.es.getD j Ent.z).v.length:Int)
     ·have hn:decide (smallP S gs)=false:=decide_eq_false (fun q=>by have:=((hsm q).2.2.2 j hjl).2;omega)
      have c1':=decide_eq_true c1
      simp only[sc5l13,sc5r0,sc5r1,sc5r2,sc5r3,sc5r4,sc5r5,sc5r6,sc5r7,sc5r8,sc5r9,sc5r10,sc5r11,sc5r12,sc5r14,sc5r16,sc5,↓rwS,↓rwX,rwZ,rwT,rwG,Nat.reduceEqDiff,Nat.reduceAdd,reduceCtorEq,Nat.reduceLT,u1,u3,u4,u5,hle,hlt2,decide_true,pg_f6,k6,ea,ee_k,ee_kl,ee_v,len_str u9,c0',c1',hn]
     have c1':=decide_eq_false c1
     simp only[sc5l13,sc5r0,sc5r1,sc5r2,sc5r3,sc5r4,sc5r5,sc5r6,sc5r7,sc5r8,sc5r9,sc5r10,sc5r11,sc5r12,sc5r14,sc5r16,sc5,↓rwS,↓rwX,rwZ,rwT,rwG,Nat.reduceEqDiff,Nat.reduceAdd,reduceCtorEq,Nat.reduceLT,u1,u3,u4,u5,hle,hlt2,decide_true,pg_f6,k6,ea,ee_k,ee_kl,ee_v,len_str u9,c0',c1',w2,true_and]
     refine⟨_,?_,j+1,rfl,by omega,fun k hk=>?_,?_⟩
     ·omega
     ·by_cases q:k=j
      ·rw[q];exact⟨by omega,by omega⟩
      ·exact hjk k (by omega)
     ·first|exact⟨rfl,rfl⟩|trivial|rfl
    ·have hpg:pgSm g:=⟨by omega,by omega,by omega,fun k hk=>hjk k (by omega)⟩
     simp only[sc5l13,sc5r0,sc5r1,sc5r2,sc5r3,sc5r4,sc5r5,sc5r6,sc5r7,sc5r8,sc5r9,sc5r10,sc5r11,sc5r12,sc5r14,sc5r16,sc5,↓rwS,↓rwX,rwZ,rwT,rwG,Nat.reduceEqDiff,Nat.reduceAdd,reduceCtorEq,Nat.reduceLT,u1,u3,u4,u5,hle,hlt2,decide_false,pg_f6,k6,w1,true_and]
     refine⟨_,?_,i+1,rfl,by omega,fun k hk=>?_,z0,?_⟩
     ·omega
     ·by_cases q:k=i
      ·rw[q,hge];exact hpg
      ·exact hok k (by omega)
     ·first|exact⟨rfl,rfl⟩|trivial|rfl
  ·have hn:decide (smallP S gs)=true:=decide_eq_true ⟨by omega,by omega,by omega,by omega,fun k hk=>hok k (by omega)⟩
   simp only[sc5l15,sc5r0,sc5r1,sc5r2,sc5r3,sc5r4,sc5r5,sc5r6,sc5r7,sc5r8,sc5r9,sc5r10,sc5r11,sc5r12,sc5r14,sc5r16,sc5,↓rwS,↓rwX,rwZ,rwT,rwG,Nat.reduceEqDiff,Nat.reduceAdd,reduceCtorEq,Nat.reduceLT,t1,t3,fa0',f0,n0,hlt,decide_false,hn]
end
structure LawI (S:Spc) (gs:List Pg) (c d:Cur):Prop where
 h0:SlP 10 S.p0 (gs.map Pg.V)
 h1:SlP 1 S.p1 (ints S.fr)
 h2:SlP 1 S.p2 (ints S.fs)
 h3:SlP 1 S.p3 (ints S.gn)
 pg:S.pgs=gs.map Pg.V
 hg:∀ g∈gs,SlQ 22 g.ep (g.es.map Ent.V)∧SlQ 2 g.fp (g.fs.map Frd.V)
 hF:∀ g∈gs,∀ f∈g.fs,f.ok
 hc:SlQ 2 c.pp (c.l.map Stp.V)
 hd:SlQ 2 d.pp (d.l.map Stp.V)
theorem bs65{hh:List Ob} {c d:Cur}:buildSlice? cx hh 65 2 [(0,.p c.V),(1,.p d.V)]=.wh (.sl hh.length 0 21 0 2) (hh++[.row 32 21 [c.V,d.V] true 0]):=by
 unfold buildSlice?
 simp only[u65,s32,a32,pureParts,pure1,zeros?,z32]
 have:(Nat.ble (2*(20+1)) 16777216&&allFit2 true (20+1) [(0,c.V),(1,d.V)]&&allFit true (20+1) [(curAt Tre.z 0).V,(curAt Tre.z 0).V])=true:=by rfl
 show cond (Nat.ble (2*(20+1)) 16777216&&allFit2 true (20+1) [(0,c.V),(1,d.V)]&&allFit true (20+1) [(curAt Tre.z 0).V,(curAt Tre.z 0).V]) _ _=_
 rw[this]
 simp only[cond,setAll,lnf_eq,forceN_eq,newRowH,List.length_cons,List.length_nil]
 rfl
section
variable {o:Orc} (ho:FreeT o)
include ho
open Classical in
theorem call5{S:Spc} {gs:List Pg} {c d:Cur} (I:LawI S gs c d) {h dst t d' r K Q}:callW cx o dst t h d' r (some (.fn 5 [.p S.v])) K Q=K (put dst (.p (.bool (decide (smallP S gs)))) t) h d' r:=callW_ret ext5 (cs_p (f:=5) (ps:=[S.v]) rfl (small5 ho I.h0 I.h1 I.h2 I.h3 I.hg))
theorem call8(hI:HasIns o) {S:Spc} {gs:List Pg} {c:Cur} (O:SpcOk S) (G:SpcG S gs) (C:c.ok) {h dst t d' r K Q}:callW cx o dst t h d' r (some (.fn 8 [.p S.v,.p c.V])) K Q=K (put dst (.p (.int .i64 (curE S gs c))) t) h d' r:=callW_ret ext8 (cs_p (f:=8) (ps:=[S.v,c.V]) rfl (check8 ho hI O G C))
theorem call9{S:Spc} {gs:List Pg} {c:Cur} (O:SpcOk S) (G:SpcG S gs) (C:c.ok) {h dst t d' r K Q}:callW cx o dst t h d' r (some (.fn 9 [.p S.v,.p c.V])) K Q=K (put dst (.p (.int .i64 (curE S gs c))) t) h d' r:=callW_ret ext9 (cs_p (f:=9) (ps:=[S.v,c.V]) rfl (check9 ho O G C))
theorem call11{u:Tre} {h dst t d' r K Q}:callW cx o dst t h d' r (some (.fn 11 [.p u.V])) K Q=K (put dst (.p (curAt u 0).V) t) h d' r:=callW_ret ext11 (cs_p (f:=11) (ps:=[u.V]) rfl (start11 ho u))
theorem call12{u:Tre} {h dst t d' r K Q}:callW cx o dst t h d' r (some (.fn 12 [.p u.V])) K Q=K (put dst (.p (curAt u 0).V) t) h d' r:=callW_ret ext12 (cs_p (f:=12) (ps:=[u.V]) rfl (start12 ho u))
theorem call13{u:Tre} {h dst t d' r K Q}:callW cx o dst t h d' r (some (.fn 13 [.p u.V])) K Q=K (put dst (.p (curAt u 2).V) t) h d' r:=callW_ret ext13 (cs_p (f:=13) (ps:=[u.V]) rfl (end13 ho u))
theorem call14{u:Tre} {h dst t d' r K Q}:callW cx o dst t h d' r (some (.fn 14 [.p u.V])) K Q=K (put dst (.p (curAt u 2).V) t) h d' r:=callW_ret ext14 (cs_p (f:=14) (ps:=[u.V]) rfl (end14 ho u))
theorem call10{u:Tre} {n:Int} {h dst t d' r K Q}:callW cx o dst t h d' r (some (.fn 10 [.p (curAt u n).V,.p (curAt u n).V])) K Q=K (put dst (.p (.bool true)) t) h d' r:=callW_ret ext10 (cs_p (f:=10) (ps:=[(curAt u n).V,(curAt u n).V]) rfl (same10 ho u n))
theorem call15{c d:Cur} (C:c.ok) (D:d.ok) {h dst t d' r K Q}:callW cx o dst t h d' r (some (.fn 15 [.p c.V,.p d.V])) K Q=K (put dst (.p (.int .i64 (visN c d d.l.length:Int))) t) h d' r:=callW_ret ext15 (cs_p (f:=15) (ps:=[c.V,d.V]) rfl (visits15 ho C D))
theorem call16{c d:Cur} (C:c.ok) (D:d.ok) (hsc:c.l.length<100000) (hsd:d.l.length<100000) {h dst t d' r K Q}:callW cx o dst t h d' r (some (.fn 16 [.p c.V,.p d.V])) K Q=K (put dst (.p (.int .i64 (visN c d d.l.length:Int))) t) h d' r:=callW_ret ext16 (cs_p (f:=16) (ps:=[c.V,d.V]) rfl (visits16 ho C D hsc hsd))
theorem call7(hsane:Ct cx o (.fn 7 []) [] (fun e _=>e=.ret (.p (.bool true)))) {h dst t d' r K Q}:callW cx o dst t h d' r (some (.fn 7 [])) K Q=K (put dst (.p (.bool true)) t) h d' r:=callW_ret (by kernel_rfl) (cs_p (f:=7) (ps:=[]) rfl hsane)
open Classical in
theorem law3(hI:HasIns o) (hsane:Ct cx o (.fn 7 []) [] (fun e _=>e=.ret (.p (.bool true)))) {S:Spc} {gs:List Pg} {c d:Cur} (I:LawI S gs c d):Ct cx o (.fn 3 [.p S.v,.p c.V,.p d.V]) [] (fun e _=>e=.ret (.p (.bool true))):=by
 refine ct3 (ho _ _ _ (by decide) (by decide)) rfl ?_
 have hbox:∀ hh:List Ob,boxW hh 25 (.p S.v)=.wn (.ptr hh.length 0) (.cells 25 S.cells):=fun hh=>rfl
 have hbox2:∀ hh:List Ob,boxW hh 32 (.p c.V)=.wn (.ptr hh.length 0) (.cells 32 (c.cs.map .p)):=fun hh=>rfl
 have hbox3:∀ hh:List Ob,boxW hh 32 (.p d.V)=.wn (.ptr hh.length 0) (.cells 32 (d.cs.map .p)):=fun hh=>rfl
 have ldS:∀ l:List Ob,load? cx (.cells 25 S.cells::l) 25 (.ptr 0 0)=some (.p S.v):=fun l=>(load_whole a25 s25 rfl rfl).trans rfl
 have dc:∀ (x:Ob) (l:List Ob),load? cx (x :: .cells 32 (c.cs.map .p)::l) 32 (.ptr 1 0)=some (.p c.V):=fun x l=>(load_whole a32 s32 rfl rfl).trans rfl
 have dd:∀ (x y:Ob) (l:List Ob),load? cx (x::y :: .cells 32 (d.cs.map .p)::l) 32 (.ptr 2 0)=some (.p d.V):=fun x y l=>(load_whole a32 s32 rfl rfl).trans rfl
 have dt:∀ (x:Ob) (l:List Ob),load? cx (x :: .cells 32 (c.cs.map .p)::l) 29 (.ptr 1 0)=some (.p c.t.V):=fun x l=>(load_part a29 s29 rfl (by show 0+18≤21;omega)).trans rfl
 by_cases hs:smallP S gs
 case neg=>
  have hs':decide (smallP S gs)=false:=decide_eq_false hs
  clear hs
  simp only[sc3r0,sc3r1,sc3r2,sc3r3,sc3d3_x,sc3,↓rwS,↓rwX,rwZ,rwT,rwG,Nat.reduceEqDiff,Nat.reduceAdd,reduceCtorEq,Nat.reduceLT,hbox,hbox2,hbox3,List.cons_append,List.nil_append,List.length_cons,List.length_nil,ldS,dc,dd,call5 ho I,hs',Bool.not_false,call7 ho hsane]
 have hs':decide (smallP S gs)=true:=decide_eq_true hs
 have ct:CS cx o (.fn 6 [.sl 3 0 21 0 2]) [.cells 25 S.cells,.cells 32 (c.cs.map .p),.cells 32 (d.cs.map .p),.row 32 21 [c.V,d.V] true 0] (.ret (.p (.bool (decide (thinP [c,d]))))) [.cells 25 S.cells,.cells 32 (c.cs.map .p),.cells 32 (d.cs.map .p),.row 32 21 [c.V,d.V] true 0]:=
  cs_pure (c:=cx) (o:=o) (f:=6) (ps:=[.own 32 21 [c.V,d.V]]) (.cons (.one (show Co1 _ (.sl 3 0 21 0 [c.V,d.V].length) _ from .own (ex:=true) (g:=0) rfl)) .nil) rfl fun h0 as0 H0=>by
   obtain⟨v0,rfl,hv0⟩:=l2_1 H0
   obtain⟨e,h',hr,a,b⟩:=thin6 ho (cs:=[c,d]) ((hv0.one_s (.own _ _)).sl' (.own _ _)) (show 2<1000000 by omega) (by simp [I.hc,I.hd])
   exact⟨e,h',hr,b,[],by rw[a];simp⟩
 by_cases ht:thinP [c,d]
 case neg=>
  have ht':decide (thinP [c,d])=false:=decide_eq_false ht
  rw[ht']at ct
  clear hs ht
  simp only[sc3r0,sc3r1,sc3r2,sc3r3,sc3d3_x,sc3,↓rwS,↓rwX,rwZ,rwT,rwG,Nat.reduceEqDiff,Nat.reduceAdd,reduceCtorEq,Nat.reduceLT,hbox,hbox2,hbox3,List.cons_append,List.nil_append,List.length_cons,List.length_nil,ldS,dc,dd,call5 ho I,hs',Bool.not_true,Bool.not_false,bs65,callW_ret ext6 ct,call7 ho hsane]
 rw[decide_eq_true ht]at ct
 have lc:(c.l.length:Int)≤60:=(ht 0 (show 0<2 by omega)).1
 have ld:(d.l.length:Int)≤60:=(ht 1 (show 1<2 by omega)).1
 have Cc:c.ok:=⟨I.hc,by omega,by have:(c.ky.length:Int)≤100:=(ht 0 (show 0<2 by omega)).2;omega⟩
 have Cd:d.ok:=⟨I.hd,by omega,by have:(d.ky.length:Int)≤100:=(ht 1 (show 1<2 by omega)).2;omega⟩
 have lg:∀ g∈gs,pgSm g:=fun g hg=>by
  obtain⟨k,hk⟩:=List.getElem?_of_mem hg
  have hkl:=(List.getElem?_eq_some_iff.1 hk).1
  have:=hs.2.2.2.2 k hkl
  rw[List.getD,hk]at this
  exact this
 have O:SpcOk S:=⟨by rw[I.pg];exact I.h0,I.h1,I.h2,I.h3,by rw[I.pg,List.length_map];have:=hs.1;omega,by have:=hs.2.1;omega,by have:=hs.2.2.1;omega,by have:=hs.2.2.2.1;omega⟩
 have G:SpcG S gs:=⟨I.pg,fun g hg=>⟨(I.hg g hg).1,(I.hg g hg).2,I.hF g hg,by have:=(lg g hg).1;omega,by have:=(lg g hg).2.2.1;omega,by have:=(lg g hg).2.1;omega⟩⟩
 clear hs ht lg
 simp only[sc3r0,sc3r1,sc3r2,sc3r3,sc3d3_x,sc3,↓rwS,↓rwX,rwZ,rwT,rwG,Nat.reduceEqDiff,Nat.reduceAdd,reduceCtorEq,Nat.reduceLT,↓rwC,rwD,rwI,Nat.reduceSub,Nat.reduceLeDiff,LW_bt,LW_bf,hbox,hbox2,hbox3,List.cons_append,List.nil_append,List.length_cons,List.length_nil,ldS,dc,dd,dt,cu_f0,call5 ho I,hs',Bool.not_true,Bool.not_false,bs65,callW_ret ext6 ct,call7 ho hsane,call8 ho hI O G Cc,call9 ho O G Cc,call10 ho,call11 ho,call12 ho,call13 ho,call14 ho,call15 ho Cc Cd,call16 ho Cc Cd (by omega) (by omega),decide_true]
end
def EntT(p:PV):Prop:=∃ e:Ent,p=e.V
def FrdT(p:PV):Prop:=∃ f:Frd,p=f.V∧f.ok
def PgT(p:PV):Prop:=∃ g:Pg,p=g.V∧SlQ 22 g.ep (g.es.map Ent.V)∧SlQ 2 g.fp (g.fs.map Frd.V)∧∀ f∈g.fs,f.ok
def StpT(p:PV):Prop:=∃ s:Stp,p=s.V
theorem map_of{α:Type} {V:α→PV} {Q:PV→Prop} {R:α→Prop} (h:∀ p,Q p→∃ a,p=V a∧R a):∀ (xs:List PV),(∀ p∈xs,Q p)→∃ l:List α,xs=l.map V∧∀ a∈l,R a
 | [],_=>⟨[],rfl,fun a ha=>(by cases ha)⟩
 |p::xs,H=>by
  obtain⟨a,rfl,hr⟩:=h p (H p List.mem_cons_self)
  obtain⟨l,rfl,hl⟩:=map_of h xs fun q hq=>H q (List.mem_cons_of_mem _ hq)
  refine⟨a::l,rfl,fun b hb=>?_⟩
  rcases List.mem_cons.1 hb with q|q
  ·rw[q];exact hr
  ·exact hl b q
theorem pgT_mk{a0 a1 a2 a3 a4 a7:Int} {b:Bool} {s:List UInt8} {p q:PV} {es fs:List PV} (he:SlQ 22 p es) (hf:SlQ 2 q fs) (hE:∀ e∈es,EntT e) (hF:∀ f∈fs,FrdT f) :
  PgT (.agg [.int .i64 a0,.int .i64 a1,.int .i64 a2,.int .i64 a3,.int .i64 a4,.bool b,p,.int .i64 a7,.str s,q]):=by
 obtain⟨el,rfl,_⟩:=map_of (V:=Ent.V) (Q:=EntT) (R:=fun _=>True) (fun p ⟨e,h⟩=>⟨e,h,trivial⟩) es hE
 obtain⟨fl,rfl,hfl⟩:=map_of (V:=Frd.V) (Q:=FrdT) (R:=Frd.ok) (fun p h=>h) fs hF
 exact⟨⟨a0,a1,a2,a3,a4,b,p,a7,s,q,el,fl⟩,rfl,he,hf,hfl⟩
end Go.Proofs

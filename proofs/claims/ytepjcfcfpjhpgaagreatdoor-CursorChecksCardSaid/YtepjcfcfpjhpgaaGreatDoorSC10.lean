/- What is proved: contracts of the specification's check of cursors; of starts and ends; of the map of pages. Conditions: as before. -/
import Derived.Test.YtepjcfcfpjhpgaaGreatDoorSC09
set_option linter.all false
set_option maxRecDepth 100000
namespace Go.Proofs
open Go Go.Ai
theorem rd_w{S:Spc} {gs:List Pg} {no:Int}:rdB S gs no (lvW gs no)=rdB S gs no (lvAt gs no):=by
 unfold lvW
 split
 ·rename_i h
  have:∀ lv,rdB S gs no lv=false:=fun lv=>by
   unfold rdB
   exact decide_eq_false (fun q=>by omega)
  rw[this,this]
 ·rfl
theorem lv_w{S:Spc} {gs:List Pg} {no lv:Int} (h:rdB S gs no lv=true):lvW gs no=lvAt gs no:=by
 obtain⟨r0,r1,_⟩:=rd_es h
 unfold lvW
 rw[if_neg (by omega)]
theorem no_f0{i:Nat}:fieldAddr? cx 153 (.ptr i 0) 0=some (.ptr i 0):=fieldAddr_ptr (m:=0) f153_0 s59
theorem no_f1{i:Nat}:fieldAddr? cx 153 (.ptr i 0) 1=some (.ptr i 1):=fieldAddr_ptr (m:=0) f153_1 s3
theorem no_f2{i:Nat}:fieldAddr? cx 153 (.ptr i 0) 2=some (.ptr i 2):=fieldAddr_ptr (m:=0) f153_2 s36
theorem plB_rt{t:Tre} (h:t.plB=true):t.rt=0↔t=Tre.z:=by
 unfold Tre.plB at h
 rw[Bool.or_eq_true]at h
 rcases h with h|h
 ·have h:=of_decide_eq_true h
  subst h
  exact⟨fun _=>rfl,fun _=>rfl⟩
 ·have h:=of_decide_eq_true h
  refine⟨fun q=>by omega,fun q=>by subst q;rfl⟩
section
variable {o:Orc} (ho:FreeT o)
include ho
theorem nod_call{S:Spc} {gs:List Pg} (O:SpcOk S) (G:SpcG S gs) (no:Int) (h:List Ob) :
  ∃ e v ext,CS cx o (.fn 86 [.p S.v,.p (.int .i64 no)]) h (.ret e) (h++ext)∧e.cells?=some [v,.p (.int .i64 (nodL S gs no)),.p (.int .i64 (nodE S gs no))]∧Co1 (h++ext) v (.pv (nodP S gs no)):=by
 obtain⟨xs,hsl,_⟩:=nod_slp G no
 obtain⟨e,h1,run,v,hv,rfl⟩:=node86 ho O G no
 have viaP:∀ p,nodP S gs no=p→CoE h1 (.ret (mkAgg [v,.p (.int .i64 (nodL S gs no)),.p (.int .i64 (nodE S gs no))])) (.val (.pv (.agg [p,.int .i64 (nodL S gs no),.int .i64 (nodE S gs no)])))→∃ e v ext,CS cx o (.fn 86 [.p S.v,.p (.int .i64 no)]) h (.ret e) (h++ext)∧e.cells?=some [v,.p (.int .i64 (nodL S gs no)),.p (.int .i64 (nodE S gs no))]∧Co1 (h++ext) v (.pv (nodP S gs no)):=fun p hp H=>by
  obtain⟨e,ext,p1,p2⟩:=cs_valP (h:=h) (ps:=[S.v,.int .i64 no]) ⟨_,h1,run,H⟩
  obtain⟨v,rfl,hv⟩:=p2.val_inv
  cases hv with
  |one q=>cases q;exact⟨_,.p p,ext,p1,rfl,by rw[hp];exact .p _⟩
 have viaA:∀ p,nodP S gs no=p→CoE h1 (.ret (mkAgg [v,.p (.int .i64 (nodL S gs no)),.p (.int .i64 (nodE S gs no))])) (.val (.agg [.pv p,.pv (.int .i64 (nodL S gs no)),.pv (.int .i64 (nodE S gs no))]))→∃ e v ext,CS cx o (.fn 86 [.p S.v,.p (.int .i64 no)]) h (.ret e) (h++ext)∧e.cells?=some [v,.p (.int .i64 (nodL S gs no)),.p (.int .i64 (nodE S gs no))]∧Co1 (h++ext) v (.pv (nodP S gs no)):=fun p hp H=>by
  obtain⟨e,ext,p1,p2⟩:=cs_valP (h:=h) (ps:=[S.v,.int .i64 no]) ⟨_,h1,run,H⟩
  obtain⟨v,rfl,hv⟩:=p2.val_inv
  cases hv with
  |one q=>cases q
  |agg q=>
   cases q with
   |cons q0 q=>
    cases q with
    |cons q1 q=>
     cases q with
     |cons q2 q=>
      cases q
      have q1':=co1_int q1
      have q2':=co1_int q2
      subst q1'
      subst q2'
      exact⟨_,_,ext,p1,rfl,by rw[hp];exact q0⟩
 have key:∀ p,nodP S gs no=p→SlP 22 p xs→Co1 h1 v (.pv p)→∃ e v ext,CS cx o (.fn 86 [.p S.v,.p (.int .i64 no)]) h (.ret e) (h++ext)∧e.cells?=some [v,.p (.int .i64 (nodL S gs no)),.p (.int .i64 (nodE S gs no))]∧Co1 (h++ext) v (.pv (nodP S gs no)):=fun p hp hsl hv=>by
  cases hsl with
  |nil=>
   cases hv
   exact viaP _ hp (.val (.one (.p _)))
  |vec=>
   cases hv with
   |p=>exact viaP _ hp (.val (.one (.p _)))
   |full=>exact viaA _ hp (.val (.agg (.cons (.full _ _) (.cons (.p _) (.cons (.p _) .nil)))))
   |sl a b=>exact viaA _ hp (.val (.agg (.cons (.sl a b) (.cons (.p _) (.cons (.p _) .nil)))))
 exact key _ rfl hsl hv
open Classical in
theorem is41{S:Spc} {gs:List Pg} {c:Cur} (O:SpcOk S) (hs:S.Sound) (G:SpcG S gs) (C:c.ok) :
  Ct cx o (.fn 41 [.p S.v,.p c.V]) [] (fun e h1=>e=.ret (.p (.bool (decide (curP S gs c))))):=by
 refine ct41 (ho _ _ _ (by decide) (by decide)) rfl ?_
 have hbox:∀ hh:List Ob,boxW hh 25 (.p S.v)=.wn (.ptr hh.length 0) (.cells 25 S.cells):=fun hh=>rfl
 have hbox2:∀ hh:List Ob,boxW hh 32 (.p c.V)=.wn (.ptr hh.length 0) (.cells 32 (c.cs.map .p)):=fun hh=>rfl
 have zc:(PV.agg [.nils,.int .i64 0,.int .i64 0]).cells.map AV.p=[.p .nils,.p (.int .i64 0),.p (.int .i64 0)]:=rfl
 have dp:∀ {hh:List Ob},hget hh 1=.cells 32 (c.cs.map .p)→load? cx hh 30 (.ptr 1 20)=some (.p c.pp):=fun q=>load_one a30 q rfl
 have dk:∀ {hh:List Ob},hget hh 1=.cells 32 (c.cs.map .p)→load? cx hh 9 (.ptr 1 19)=some (.p (.str c.ky)):=fun q=>load_one a9 q rfl
 have dS:∀ {hh:List Ob},hget hh 0=.cells 25 S.cells→load? cx hh 25 (.ptr 0 0)=some (.p S.v):=fun q=>(load_whole a25 s25 q rfl).trans rfl
 have hlen:∀ hh:List Ob,lenW cx hh 30 (.p c.pp)=_:=fun hh=>stp_len C.hp hh
 have b0:load? cx [.cells 25 S.cells,.cells 32 (c.cs.map .p)] 29 (.ptr 1 0)=some (.p c.t.V):=(load_part a29 s29 rfl (by show 0+18≤21;omega)).trans rfl
 have b1:load? cx [.cells 25 S.cells,.cells 32 (c.cs.map .p)] 3 (.ptr 1 18)=some (.p (.int .i64 c.wh)):=load_one a3 rfl rfl
 have b2:load? cx [.cells 25 S.cells,.cells 32 (c.cs.map .p)] 9 (.ptr 1 19)=some (.p (.str c.ky)):=load_one a9 rfl rfl
 have b3:load? cx [.cells 25 S.cells,.cells 32 (c.cs.map .p)] 30 (.ptr 1 20)=some (.p c.pp):=load_one a30 rfl rfl
 have b4:load? cx [.cells 25 S.cells,.cells 32 (c.cs.map .p)] 3 (.ptr 1 0)=some (.p (.int .i64 c.t.rt)):=load_one a3 rfl rfl
 have hln:=C.ln
 have hpl:=@plB_rt c.t
 have hll:(c.l=[])↔(c.l.length:Int)=0:=by cases c.l<;>simp<;>omega
 simp only[sc41r0,sc41r1,sc41r2,sc41r3,sc41r4,sc41r5,sc41r6,sc41r7,sc41r8,sc41r9,sc41r10,sc41r11,sc41r12,sc41r13,sc41r14,sc41r15,sc41r16,sc41r17,sc41r19,sc41,↓rwS,↓rwX,rwZ,rwT,rwG,Nat.reduceEqDiff,Nat.reduceAdd,reduceCtorEq,Nat.reduceLT,hbox,hbox2,List.cons_append,List.nil_append,List.length_cons,List.length_nil,cu_f0,cu_f1,cu_f2,cu_f3,tr_f0,b0,b1,b2,b3,b4,hlen,call85 ho]
 repeat' (refine spl (fun hb=>?_) (fun hb=>?_)<;>try simp only[sc41r0,sc41r1,sc41r2,sc41r3,sc41r4,sc41r5,sc41r6,sc41r7,sc41r8,sc41r9,sc41r10,sc41r11,sc41r12,sc41r13,sc41r14,sc41r15,sc41r16,sc41r17,sc41r19,sc41,↓rwS,↓rwX,rwZ,rwT,rwG,Nat.reduceEqDiff,Nat.reduceAdd,reduceCtorEq,Nat.reduceLT,hbox,hbox2,List.cons_append,List.nil_append,List.length_cons,List.length_nil,cu_f0,cu_f1,cu_f2,cu_f3,tr_f0,b0,b1,b2,b3,b4,hlen,call85 ho, *])
 all_goals first
  | (refine ret_bool ?_;clear hbox hbox2 dp dk dS hlen b0 b1 b2 b3 b4;unfold curP;first|grind|(unfold standsP;grind))
  |skip
 rename_i hb1 hb2 hb3 hb4 hb5
 have hcur:curP S gs c↔(∀ i,i<c.l.length→stpOk S gs c i)∧(nxt gs c c.l.length).2=c.ky:=by
  clear hbox hbox2 dp dk dS hlen b0 b1 b2 b3 b4
  unfold curP standsP
  grind
 refine xC_loop (fun m t h' d r => ∃ i : Nat, m = c.l.length - i ∧ i ≤ c.l.length ∧ (∀ k, k < i → stpOk S gs c k) ∧ hget h' 0 = .cells 25 S.cells ∧ hget h' 1 = .cells 32 (c.cs.map .p) ∧ d = [] ∧ r = none ∧
  t.get 2=.ptr 0 0∧t.get 3=.ptr 1 0∧t.get 5=.p (.int .i64 (nxt gs c i).1)∧t.get 6=.p (.str (nxt gs c i).2)∧t.get 7=.p (.int .i64 (i:Int))) c.l.length ?_ ?_
 ·refine⟨0,rfl,by omega,fun k hk=>by omega,rfl,rfl,rfl,rfl,?_⟩
  simp only[↓rwA,rwB,rwG,Nat.reduceEqDiff,Nat.reduceAdd,reduceCtorEq,Nat.reduceLT,true_and]
  first|trivial|exact⟨rfl,rfl⟩|rfl
 ·clear b0 b1 b2 b3 b4 hb1 hb2 hb3 hb4 hb5 hb hpl hll
  rintro m t h' d r ⟨i,rfl,hi,hok,y0,y1,rfl,rfl,t2,t3,t5,t6,t7⟩
  have g7:=dp y1
  by_cases hlt:(i:Int)<(c.l.length:Int)
  ·have hil:i<c.l.length:=by omega
   have sa:=stp_at C.hp hil
   generalize hs':c.l.getD i Stp.z=s at sa
   have w1:=one63 (i:=i) (by omega)
   have wl:IntKind.wrap .i64 ((c.l.length:Int)-1)=(c.l.length:Int)-1:=wrap64_id (by omega) (by omega)
   have wl2:IntKind.wrap .i64 ((c.l.length:Int)-1-(i:Int))=(c.l.length:Int)-1-(i:Int):=wrap64_id (by omega) (by omega)
   obtain⟨ev,v,ext,p1,pc,pv⟩:=nod_call ho O G s.no (h'++[.cells 93 (s.cs.map .p)])
   obtain⟨xs,hsl,hxs⟩:=nod_slp G s.no
   have l0:=hget_cells_lt y0
   have l1:=hget_cells_lt y1
   have z0:hget (h'++[.cells 93 (s.cs.map .p)]) 0=.cells 25 S.cells:=(hget_appL _ _ l0).trans y0
   have dS1:=dS z0
   have e0:load? cx (h'++[.cells 93 (s.cs.map .p)]) 3 (.ptr h'.length 0)=some (.p (.int .i64 s.no)):=load_one a3 (hget_end _ _) rfl
   have n0:hget ((h'++[.cells 93 (s.cs.map .p)])++ext) 0=.cells 25 S.cells:=by rw[hget_appL _ _ (by rw[List.length_append];omega)];exact z0
   have n1:hget ((h'++[.cells 93 (s.cs.map .p)])++ext) 1=.cells 32 (c.cs.map .p):=by rw[hget_appL _ _ (by rw[List.length_append];omega),hget_appL _ _ l1];exact y1
   have n2:hget ((h'++[.cells 93 (s.cs.map .p)])++ext) h'.length=.cells 93 (s.cs.map .p):=by rw[hget_appL _ _ (by simp),hget_end]
   generalize hM:(h'++[.cells 93 (s.cs.map .p)])++ext=M at *
   have lM0:=hget_cells_lt n0
   have lM1:=hget_cells_lt n1
   have lM2:=hget_cells_lt n2
   have st:store? cx (M++[.cells 153 [.p .nils,.p (.int .i64 0),.p (.int .i64 0)]]) 153 (.ptr M.length 0) ev=.ws undefA M.length (.cells 153 [v,.p (.int .i64 (nodL S gs s.no)),.p (.int .i64 (nodE S gs s.no))]):=store_whole s153 (hget_end _ _) pc rfl rfl
   have m0:=(hget_appL [.cells 153 [v,.p (.int .i64 (nodL S gs s.no)),.p (.int .i64 (nodE S gs s.no))]] _ lM0).trans n0
   have m1:=(hget_appL [.cells 153 [v,.p (.int .i64 (nodL S gs s.no)),.p (.int .i64 (nodE S gs s.no))]] _ lM1).trans n1
   have m2:=(hget_appL [.cells 153 [v,.p (.int .i64 (nodL S gs s.no)),.p (.int .i64 (nodE S gs s.no))]] _ lM2).trans n2
   have hS:=(pv.sl' hsl.is).ext [.cells 153 [v,.p (.int .i64 (nodL S gs s.no)),.p (.int .i64 (nodE S gs s.no))]]
   have k0:load? cx (M++[.cells 153 [v,.p (.int .i64 (nodL S gs s.no)),.p (.int .i64 (nodE S gs s.no))]]) 59 (.ptr M.length 0)=some v:=load_one a59 (hget_end _ _) rfl
   have k1:load? cx (M++[.cells 153 [v,.p (.int .i64 (nodL S gs s.no)),.p (.int .i64 (nodE S gs s.no))]]) 3 (.ptr M.length 1)=some (.p (.int .i64 (nodL S gs s.no))):=load_one a3 (hget_end _ _) rfl
   have k2:load? cx (M++[.cells 153 [v,.p (.int .i64 (nodL S gs s.no)),.p (.int .i64 (nodE S gs s.no))]]) 36 (.ptr M.length 2)=some (.p (.int .i64 (nodE S gs s.no))):=load_one a36 (hget_end _ _) rfl
   have f0:=load_one (c:=cx) (ty:=3) (off:=0) a3 m2 rfl
   have f1:=load_one (c:=cx) (ty:=3) (off:=1) a3 m2 rfl
   have f2:=dp m1
   have hst:curP S gs c→stpOk S gs c i:=fun q=>(hcur.1 q).1 i hil
   unfold stpOk at hst
   rw[hs']at hst
   generalize hN:M++[.cells 153 [v,.p (.int .i64 (nodL S gs s.no)),.p (.int .i64 (nodE S gs s.no))]]=N at *
   have d0:decide ((0:Int)=0)=true:=rfl
   have d8:decide ((8:Int)=0)=false:=rfl
   by_cases j1:s.no=(nxt gs c i).1
   case neg=>
    have hns:decide (curP S gs c)=false:=decide_eq_false (fun q=>j1 (hst q).1)
    have j1':decide (s.no=(nxt gs c i).1)=false:=decide_eq_false j1
    clear hst hcur j1
    simp only[sc41r0,sc41r1,sc41r2,sc41r3,sc41r4,sc41r5,sc41r6,sc41r7,sc41r8,sc41r9,sc41r10,sc41r11,sc41r12,sc41r13,sc41r14,sc41r15,sc41r16,sc41r17,sc41l18,sc41r19,sc41,↓rwS,↓rwX,rwZ,rwT,rwG,Nat.reduceEqDiff,Nat.reduceAdd,reduceCtorEq,Nat.reduceLT,↓rwC,rwD,rwI,Nat.reduceSub,Nat.reduceLeDiff,LW_bt,LW_bf,t2,t3,t5,t6,t7,hlt,decide_true,decide_false,sa,stp_ld,z93,z93c,stp_st,hset_end,stp_f0,stp_f1,cu_f3,cu_f2,dS1,e0,g7,callW_ret ext86 p1,z153,zc,st,hN,no_f0,no_f1,no_f2,k0,k1,k2,d8,d0,Bool.not_false,Bool.not_true,hlen,f0,f1,f2,wl,wl2,j1',hns]
   have j1':decide (s.no=(nxt gs c i).1)=true:=decide_eq_true j1
   cases hr:rdB S gs s.no (lvAt gs s.no)with
   |false=>
    have hns:decide (curP S gs c)=false:=decide_eq_false (fun q=>by have:=(hst q).2.1;rw[hr]at this;cases this)
    have hE:nodE S gs s.no=8:=by unfold nodE;rw[if_neg (fun q=>q hs),rd_w,hr];rfl
    clear hst hcur j1
    rw[hE]at k2 st hN
    simp only[sc41r0,sc41r1,sc41r2,sc41r3,sc41r4,sc41r5,sc41r6,sc41r7,sc41r8,sc41r9,sc41r10,sc41r11,sc41r12,sc41r13,sc41r14,sc41r15,sc41r16,sc41r17,sc41l18,sc41r19,sc41,↓rwS,↓rwX,rwZ,rwT,rwG,Nat.reduceEqDiff,Nat.reduceAdd,reduceCtorEq,Nat.reduceLT,↓rwC,rwD,rwI,Nat.reduceSub,Nat.reduceLeDiff,LW_bt,LW_bf,t2,t3,t5,t6,t7,hlt,decide_true,decide_false,sa,stp_ld,z93,z93c,stp_st,hset_end,stp_f0,stp_f1,cu_f3,cu_f2,dS1,e0,g7,callW_ret ext86 p1,z153,zc,st,hN,no_f0,no_f1,no_f2,k0,k1,k2,d8,d0,Bool.not_false,Bool.not_true,hlen,f0,f1,f2,wl,wl2,j1',hE,hns]
   |true=>
    have hE:nodE S gs s.no=0:=by unfold nodE;rw[if_neg (fun q=>q hs),rd_w,hr];rfl
    have hL:nodL S gs s.no=lvAt gs s.no:=by unfold nodL;rw[if_pos hE];exact lv_w hr
    rw[hE]at k2 st hN
    rw[hL]at k1 st hN
    have hx:=hxs hE
    subst hx
    have lenv:lenW cx N 59 v=.w (.p (.int .i64 ((gs.getD s.no.toNat Pg.z).es.length:Int))):=by rw[hS.len u59,List.length_map]
    by_cases j2:lvAt gs s.no=(c.l.length:Int)-1-(i:Int)
    case neg=>
     have hns:decide (curP S gs c)=false:=decide_eq_false (fun q=>j2 (hst q).2.2.1)
     have j2':decide (lvAt gs s.no=(c.l.length:Int)-1-(i:Int))=false:=decide_eq_false j2
     clear hst hcur j1 j2 hr
     simp only[sc41r0,sc41r1,sc41r2,sc41r3,sc41r4,sc41r5,sc41r6,sc41r7,sc41r8,sc41r9,sc41r10,sc41r11,sc41r12,sc41r13,sc41r14,sc41r15,sc41r16,sc41r17,sc41l18,sc41r19,sc41,↓rwS,↓rwX,rwZ,rwT,rwG,Nat.reduceEqDiff,Nat.reduceAdd,reduceCtorEq,Nat.reduceLT,↓rwC,rwD,rwI,Nat.reduceSub,Nat.reduceLeDiff,LW_bt,LW_bf,t2,t3,t5,t6,t7,hlt,decide_true,decide_false,sa,stp_ld,z93,z93c,stp_st,hset_end,stp_f0,stp_f1,cu_f3,cu_f2,dS1,e0,g7,callW_ret ext86 p1,z153,zc,st,hN,no_f0,no_f1,no_f2,k0,k1,k2,d8,d0,Bool.not_false,Bool.not_true,hlen,f0,f1,f2,wl,wl2,lenv,hE,hL,j1',j2',hns]
    have j2':decide (lvAt gs s.no=(c.l.length:Int)-1-(i:Int))=true:=decide_eq_true j2
    by_cases j3:s.ix<0
    case pos=>
     have hns:decide (curP S gs c)=false:=decide_eq_false (fun q=>by have:=(hst q).2.2.2.1;omega)
     have j3':decide (s.ix<0)=true:=decide_eq_true j3
     clear hst hcur j1 j2 j3 hr
     simp only[sc41r0,sc41r1,sc41r2,sc41r3,sc41r4,sc41r5,sc41r6,sc41r7,sc41r8,sc41r9,sc41r10,sc41r11,sc41r12,sc41r13,sc41r14,sc41r15,sc41r16,sc41r17,sc41l18,sc41r19,sc41,↓rwS,↓rwX,rwZ,rwT,rwG,Nat.reduceEqDiff,Nat.reduceAdd,reduceCtorEq,Nat.reduceLT,↓rwC,rwD,rwI,Nat.reduceSub,Nat.reduceLeDiff,LW_bt,LW_bf,t2,t3,t5,t6,t7,hlt,decide_true,decide_false,sa,stp_ld,z93,z93c,stp_st,hset_end,stp_f0,stp_f1,cu_f3,cu_f2,dS1,e0,g7,callW_ret ext86 p1,z153,zc,st,hN,no_f0,no_f1,no_f2,k0,k1,k2,d8,d0,Bool.not_false,Bool.not_true,hlen,f0,f1,f2,wl,wl2,lenv,hE,hL,j1',j2',j3',hns]
    have j3':decide (s.ix<0)=false:=decide_eq_false j3
    by_cases j4:((gs.getD s.no.toNat Pg.z).es.length:Int)≤s.ix
    case pos=>
     have hns:decide (curP S gs c)=false:=decide_eq_false (fun q=>by have:=(hst q).2.2.2.2;omega)
     have j4':decide (((gs.getD s.no.toNat Pg.z).es.length:Int)≤s.ix)=true:=decide_eq_true j4
     clear hst hcur j1 j2 j3 j4 hr
     simp only[sc41r0,sc41r1,sc41r2,sc41r3,sc41r4,sc41r5,sc41r6,sc41r7,sc41r8,sc41r9,sc41r10,sc41r11,sc41r12,sc41r13,sc41r14,sc41r15,sc41r16,sc41r17,sc41l18,sc41r19,sc41,↓rwS,↓rwX,rwZ,rwT,rwG,Nat.reduceEqDiff,Nat.reduceAdd,reduceCtorEq,Nat.reduceLT,↓rwC,rwD,rwI,Nat.reduceSub,Nat.reduceLeDiff,LW_bt,LW_bf,t2,t3,t5,t6,t7,hlt,decide_true,decide_false,sa,stp_ld,z93,z93c,stp_st,hset_end,stp_f0,stp_f1,cu_f3,cu_f2,dS1,e0,g7,callW_ret ext86 p1,z153,zc,st,hN,no_f0,no_f1,no_f2,k0,k1,k2,d8,d0,Bool.not_false,Bool.not_true,hlen,f0,f1,f2,wl,wl2,lenv,hE,hL,j1',j2',j3',j4',hns]
    have j4':decide (((gs.getD s.no.toNat Pg.z).es.length:Int)≤s.ix)=false:=decide_eq_false j4
    have hk:s.ix.toNat<(gs.getD s.no.toNat Pg.z).es.length:=by omega
    have hkm:s.ix.toNat<((gs.getD s.no.toNat Pg.z).es.map Ent.V).length:=by rw[List.length_map];exact hk
    have hge:((gs.getD s.no.toNat Pg.z).es.map Ent.V).getD s.ix.toNat .nilp=((gs.getD s.no.toNat Pg.z).es.getD s.ix.toNat Ent.z).V:=ent_d hk
    have ia:indexAddr? cx 59 v (.p (.int .i64 s.ix))=some (rdS v s.ix.toNat):=hS.at (sz:=21) u59 s64 (by omega) (by rw[List.length_map];omega)
    obtain⟨fa,ga,gl⟩:=sl_fld hS hkm f64_4 s3 a3 (by rw[hge];rfl) (w:=.int .i64 ((gs.getD s.no.toNat Pg.z).es.getD s.ix.toNat Ent.z).ch) (fun cs q=>by cases q)
    obtain⟨fb,gb,glb⟩:=sl_fld hS hkm f64_0 s9 a9 (by rw[hge];rfl) (w:=.str ((gs.getD s.no.toNat Pg.z).es.getD s.ix.toNat Ent.z).k) (fun cs q=>by cases q)
    have nx:nxt gs c (i+1)=(((gs.getD s.no.toNat Pg.z).es.getD s.ix.toNat Ent.z).ch,((gs.getD s.no.toNat Pg.z).es.getD s.ix.toNat Ent.z).k):=by
     rw[← hs'];rfl
    have hi1:stpOk S gs c i:=by
     unfold stpOk
     rw[hs']
     exact⟨j1,hr,j2,by omega,by omega⟩
    simp only[sc41r0,sc41r1,sc41r2,sc41r3,sc41r4,sc41r5,sc41r6,sc41r7,sc41r8,sc41r9,sc41r10,sc41r11,sc41r12,sc41r13,sc41r14,sc41r15,sc41r16,sc41r17,sc41l18,sc41r19,sc41,↓rwS,↓rwX,rwZ,rwT,rwG,Nat.reduceEqDiff,Nat.reduceAdd,reduceCtorEq,Nat.reduceLT,↓rwC,rwD,rwI,Nat.reduceSub,Nat.reduceLeDiff,LW_bt,LW_bf,t2,t3,t5,t6,t7,hlt,decide_true,decide_false,sa,stp_ld,z93,z93c,stp_st,hset_end,stp_f0,stp_f1,cu_f3,cu_f2,dS1,e0,g7,callW_ret ext86 p1,z153,zc,st,hN,no_f0,no_f1,no_f2,k0,k1,k2,d8,d0,Bool.not_false,Bool.not_true,hlen,f0,f1,f2,wl,wl2,lenv,hE,hL,j1',j2',j3',j4',ia,ga,gl,gb,glb,w1,true_and]
    refine⟨_,?_,i+1,rfl,by omega,fun k hk=>?_,m0,m1,?_⟩
    ·omega
    ·by_cases q:k=i
     ·rw[q];exact hi1
     ·exact hok k (by omega)
    ·rw[nx]
     first|exact⟨rfl,rfl⟩|trivial|exact⟨rfl,rfl,rfl⟩
  ·have hin:i=c.l.length:=by omega
   have g2:=dk y1
   by_cases hk:(nxt gs c i).2=c.ky
   ·have hns:decide (curP S gs c)=true:=decide_eq_true (hcur.2 ⟨fun k q=>hok k (by omega),by rw[← hin];exact hk⟩)
    have hk':decide ((nxt gs c i).2=c.ky)=true:=decide_eq_true hk
    clear hk hcur
    simp only[sc41r0,sc41r1,sc41r2,sc41r3,sc41r4,sc41r5,sc41r6,sc41r7,sc41r8,sc41r9,sc41r10,sc41r11,sc41r12,sc41r13,sc41r14,sc41r15,sc41r16,sc41r17,sc41l18,sc41r19,sc41,↓rwS,↓rwX,rwZ,rwT,rwG,Nat.reduceEqDiff,Nat.reduceAdd,reduceCtorEq,Nat.reduceLT,t2,t3,t5,t6,t7,hlt,decide_false,cu_f3,cu_f2,g7,g2,hlen,hk',hns]
   ·have hns:decide (curP S gs c)=false:=decide_eq_false (fun q=>hk (by rw[hin];exact(hcur.1 q).2))
    have hk':decide ((nxt gs c i).2=c.ky)=false:=decide_eq_false hk
    clear hk hcur
    simp only[sc41r0,sc41r1,sc41r2,sc41r3,sc41r4,sc41r5,sc41r6,sc41r7,sc41r8,sc41r9,sc41r10,sc41r11,sc41r12,sc41r13,sc41r14,sc41r15,sc41r16,sc41r17,sc41l18,sc41r19,sc41,↓rwS,↓rwX,rwZ,rwT,rwG,Nat.reduceEqDiff,Nat.reduceAdd,reduceCtorEq,Nat.reduceLT,t2,t3,t5,t6,t7,hlt,decide_false,cu_f3,cu_f2,g7,g2,hlen,hk',hns]
open Classical in
theorem call41{S:Spc} {gs:List Pg} {c:Cur} (O:SpcOk S) (hs:S.Sound) (G:SpcG S gs) (C:c.ok) {h dst t d r K Q}:callW cx o dst t h d r (some (.fn 41 [.p S.v,.p c.V])) K Q=K (put dst (.p (.bool (decide (curP S gs c)))) t) h d r:=
 callW_ret ext41 (cs_p (f:=41) (ps:=[S.v,c.V]) rfl (is41 ho O hs G C))
theorem check9{S:Spc} {gs:List Pg} {c:Cur} (O:SpcOk S) (G:SpcG S gs) (C:c.ok) :
  Ct cx o (.fn 9 [.p S.v,.p c.V]) [] (fun e h1=>e=.ret (.p (.int .i64 (curE S gs c)))):=by
 refine ct9 (ho _ _ _ (by decide) (by decide)) rfl ?_
 have hbox:∀ hh:List Ob,boxW hh 25 (.p S.v)=.wn (.ptr hh.length 0) (.cells 25 S.cells):=fun hh=>rfl
 have hbox2:∀ hh:List Ob,boxW hh 32 (.p c.V)=.wn (.ptr hh.length 0) (.cells 32 (c.cs.map .p)):=fun hh=>rfl
 have ldS:∀ l:List Ob,load? cx (.cells 25 S.cells::l) 25 (.ptr 0 0)=some (.p S.v):=fun l=>(load_whole a25 s25 rfl rfl).trans rfl
 have dw:∀ l:List Ob,load? cx (.cells 25 S.cells :: .cells 32 (c.cs.map .p)::l) 32 (.ptr 1 0)=some (.p c.V):=fun l=>(load_whole a32 s32 rfl rfl).trans rfl
 by_cases hs:S.Sound
 case neg=>
  have hE:curE S gs c=2:=by unfold curE;exact if_pos hs
  rw[hE]
  simp only[sc9r0,sc9r1,sc9r2,sc9r3,sc9r4,sc9r5,sc9,↓rwS,↓rwX,rwZ,rwT,rwG,Nat.reduceEqDiff,Nat.reduceAdd,reduceCtorEq,Nat.reduceLT,hbox,hbox2,List.cons_append,List.nil_append,List.length_cons,List.length_nil,ldS,dw,call59 ho O,Spc.soundB_f hs,Bool.not_false]
 by_cases h1:curP S gs c
 ·have hE:curE S gs c=0:=by unfold curE;rw[if_neg (fun q=>q hs)];exact if_pos h1
  rw[hE]
  simp only[sc9r0,sc9r1,sc9r2,sc9r3,sc9r4,sc9r5,sc9,↓rwS,↓rwX,rwZ,rwT,rwG,Nat.reduceEqDiff,Nat.reduceAdd,reduceCtorEq,Nat.reduceLT,hbox,hbox2,List.cons_append,List.nil_append,List.length_cons,List.length_nil,ldS,dw,call59 ho O,Spc.soundB_t hs,Bool.not_true,call41 ho O hs G C,h1,decide_true]
 ·have hE:curE S gs c=6:=by unfold curE;rw[if_neg (fun q=>q hs)];exact if_neg h1
  rw[hE]
  simp only[sc9r0,sc9r1,sc9r2,sc9r3,sc9r4,sc9r5,sc9,↓rwS,↓rwX,rwZ,rwT,rwG,Nat.reduceEqDiff,Nat.reduceAdd,reduceCtorEq,Nat.reduceLT,hbox,hbox2,List.cons_append,List.nil_append,List.length_cons,List.length_nil,ldS,dw,call59 ho O,Spc.soundB_t hs,Bool.not_true,Bool.not_false,call41 ho O hs G C,h1,decide_false]
end
def curAt(t:Tre) (n:Int):Cur:=⟨t,n,[],.nils,[]⟩
theorem z32:zero? cx 32=some (curAt Tre.z 0).V:=by kernel_rfl
theorem z32c:(curAt Tre.z 0).V.cells.map AV.p=(curAt Tre.z 0).cs.map AV.p:=rfl
theorem b32{t:Tre} {n:Int}:build? cx 32 [(0,.p t.V),(1,.p (.int .i64 n))]=some (.p (curAt t n).V):=by kernel_rfl
section
variable {o:Orc} (ho:FreeT o)
include ho
theorem start11(t:Tre):Ct cx o (.fn 11 [.p t.V]) [] (fun e _=>e=.ret (.p (curAt t 0).V)):=by
 refine ct11 (ho _ _ _ (by decide) (by decide)) rfl ?_
 have hbox:∀ hh:List Ob,boxW hh 29 (.p t.V)=.wn (.ptr hh.length 0) (.cells 29 (t.cs.map .p)):=fun hh=>rfl
 have st:store? cx [.cells 29 (t.cs.map .p),.cells 32 ((curAt Tre.z 0).cs.map .p)] 32 (.ptr 1 0) (.p (curAt t 0).V)=.ws undefA 1 (.cells 32 ((curAt t 0).cs.map .p)):=store_whole s32 rfl (show _=some ((curAt t 0).cs.map AV.p)from rfl) rfl rfl
 have ld:load? cx [.cells 29 (t.cs.map .p),.cells 32 ((curAt t 0).cs.map .p)] 32 (.ptr 1 0)=some (.p (curAt t 0).V):=(load_whole a32 s32 rfl rfl).trans rfl
 simp only[sc11r0,sc11r1,sc11,↓rwS,↓rwX,rwZ,rwT,rwG,Nat.reduceEqDiff,Nat.reduceAdd,reduceCtorEq,Nat.reduceLT,hbox,z32,z32c,List.cons_append,List.nil_append,List.length_cons,List.length_nil,tr_w0,b32,st,hset2_1,ld]
theorem start12(t:Tre):Ct cx o (.fn 12 [.p t.V]) [] (fun e _=>e=.ret (.p (curAt t 0).V)):=by
 refine ct12 (ho _ _ _ (by decide) (by decide)) rfl ?_
 have hbox:∀ hh:List Ob,boxW hh 29 (.p t.V)=.wn (.ptr hh.length 0) (.cells 29 (t.cs.map .p)):=fun hh=>rfl
 have st:store? cx [.cells 29 (t.cs.map .p),.cells 32 ((curAt Tre.z 0).cs.map .p)] 32 (.ptr 1 0) (.p (curAt t 0).V)=.ws undefA 1 (.cells 32 ((curAt t 0).cs.map .p)):=store_whole s32 rfl (show _=some ((curAt t 0).cs.map AV.p)from rfl) rfl rfl
 have ld:load? cx [.cells 29 (t.cs.map .p),.cells 32 ((curAt t 0).cs.map .p)] 32 (.ptr 1 0)=some (.p (curAt t 0).V):=(load_whole a32 s32 rfl rfl).trans rfl
 simp only[sc12r0,sc12r1,sc12,↓rwS,↓rwX,rwZ,rwT,rwG,Nat.reduceEqDiff,Nat.reduceAdd,reduceCtorEq,Nat.reduceLT,hbox,z32,z32c,List.cons_append,List.nil_append,List.length_cons,List.length_nil,tr_w0,b32,st,hset2_1,ld]
theorem end13(t:Tre):Ct cx o (.fn 13 [.p t.V]) [] (fun e _=>e=.ret (.p (curAt t 2).V)):=by
 refine ct13 (ho _ _ _ (by decide) (by decide)) rfl ?_
 have hbox:∀ hh:List Ob,boxW hh 29 (.p t.V)=.wn (.ptr hh.length 0) (.cells 29 (t.cs.map .p)):=fun hh=>rfl
 have st:store? cx [.cells 29 (t.cs.map .p),.cells 32 ((curAt Tre.z 0).cs.map .p)] 32 (.ptr 1 0) (.p (curAt t 2).V)=.ws undefA 1 (.cells 32 ((curAt t 2).cs.map .p)):=store_whole s32 rfl (show _=some ((curAt t 2).cs.map AV.p)from rfl) rfl rfl
 have ld:load? cx [.cells 29 (t.cs.map .p),.cells 32 ((curAt t 2).cs.map .p)] 32 (.ptr 1 0)=some (.p (curAt t 2).V):=(load_whole a32 s32 rfl rfl).trans rfl
 simp only[sc13r0,sc13r1,sc13,↓rwS,↓rwX,rwZ,rwT,rwG,Nat.reduceEqDiff,Nat.reduceAdd,reduceCtorEq,Nat.reduceLT,hbox,z32,z32c,List.cons_append,List.nil_append,List.length_cons,List.length_nil,tr_w0,b32,st,hset2_1,ld]
theorem end14(t:Tre):Ct cx o (.fn 14 [.p t.V]) [] (fun e _=>e=.ret (.p (curAt t 2).V)):=by
 refine ct14 (ho _ _ _ (by decide) (by decide)) rfl ?_
 have hbox:∀ hh:List Ob,boxW hh 29 (.p t.V)=.wn (.ptr hh.length 0) (.cells 29 (t.cs.map .p)):=fun hh=>rfl
 have st:store? cx [.cells 29 (t.cs.map .p),.cells 32 ((curAt Tre.z 0).cs.map .p)] 32 (.ptr 1 0) (.p (curAt t 2).V)=.ws undefA 1 (.cells 32 ((curAt t 2).cs.map .p)):=store_whole s32 rfl (show _=some ((curAt t 2).cs.map AV.p)from rfl) rfl rfl
 have ld:load? cx [.cells 29 (t.cs.map .p),.cells 32 ((curAt t 2).cs.map .p)] 32 (.ptr 1 0)=some (.p (curAt t 2).V):=(load_whole a32 s32 rfl rfl).trans rfl
 simp only[sc14r0,sc14r1,sc14,↓rwS,↓rwX,rwZ,rwT,rwG,Nat.reduceEqDiff,Nat.reduceAdd,reduceCtorEq,Nat.reduceLT,hbox,z32,z32c,List.cons_append,List.nil_append,List.length_cons,List.length_nil,tr_w0,b32,st,hset2_1,ld]
theorem same10(t:Tre) (n:Int):Ct cx o (.fn 10 [.p (curAt t n).V,.p (curAt t n).V]) [] (fun e _=>e=.ret (.p (.bool true))):=by
 refine ct10 (ho _ _ _ (by decide) (by decide)) rfl ?_
 have hbox:∀ hh:List Ob,boxW hh 32 (.p (curAt t n).V)=.wn (.ptr hh.length 0) (.cells 32 ((curAt t n).cs.map .p)):=fun hh=>rfl
 have a0:load? cx [.cells 32 ((curAt t n).cs.map .p),.cells 32 ((curAt t n).cs.map .p)] 29 (.ptr 0 0)=some (.p t.V):=(load_part a29 s29 rfl (by show 0+18≤21;omega)).trans rfl
 have b0:load? cx [.cells 32 ((curAt t n).cs.map .p),.cells 32 ((curAt t n).cs.map .p)] 29 (.ptr 1 0)=some (.p t.V):=(load_part a29 s29 rfl (by show 0+18≤21;omega)).trans rfl
 have a1:load? cx [.cells 32 ((curAt t n).cs.map .p),.cells 32 ((curAt t n).cs.map .p)] 3 (.ptr 0 18)=some (.p (.int .i64 n)):=load_one a3 rfl rfl
 have b1:load? cx [.cells 32 ((curAt t n).cs.map .p),.cells 32 ((curAt t n).cs.map .p)] 3 (.ptr 1 18)=some (.p (.int .i64 n)):=load_one a3 rfl rfl
 have a2:load? cx [.cells 32 ((curAt t n).cs.map .p),.cells 32 ((curAt t n).cs.map .p)] 9 (.ptr 0 19)=some (.p (.str [])):=load_one a9 rfl rfl
 have b2:load? cx [.cells 32 ((curAt t n).cs.map .p),.cells 32 ((curAt t n).cs.map .p)] 9 (.ptr 1 19)=some (.p (.str [])):=load_one a9 rfl rfl
 have c3:load? cx [.cells 32 ((curAt t n).cs.map .p),.cells 32 ((curAt t n).cs.map .p)] 30 (.ptr 0 20)=some (.p .nils):=load_one a30 rfl rfl
 have d3:load? cx [.cells 32 ((curAt t n).cs.map .p),.cells 32 ((curAt t n).cs.map .p)] 30 (.ptr 1 20)=some (.p .nils):=load_one a30 rfl rfl
 have hl:∀ hh:List Ob,lenW cx hh 30 (.p .nils)=.w (.p (.int .i64 0)):=fun hh=>len_nils u30
 have w0:decide ((0:Int)<0)=false:=rfl
 simp only[sc10r0,sc10r1,sc10r2,sc10r3,sc10r4,sc10r5,sc10d5_x,sc10r6,sc10r7,sc10r9,sc10,↓rwS,↓rwX,rwZ,rwT,rwG,Nat.reduceEqDiff,Nat.reduceAdd,reduceCtorEq,Nat.reduceLT,hbox,List.cons_append,List.nil_append,List.length_cons,List.length_nil,cu_f0,cu_f1,cu_f2,cu_f3,a0,b0,a1,b1,a2,b2,c3,d3,neq_tre,hl,decide_true,Bool.not_true]
 refine xC_loop (fun m u h' d r=>h'=[.cells 32 ((curAt t n).cs.map .p),.cells 32 ((curAt t n).cs.map .p)]∧d=[]∧r=none∧u.get 2=.ptr 0 0∧u.get 5=.p (.int .i64 0)) 0 ?_ ?_
 ·refine⟨rfl,rfl,rfl,?_⟩
  simp only[↓rwA,rwB,rwG,Nat.reduceEqDiff,Nat.reduceAdd,reduceCtorEq,Nat.reduceLT,true_and]
  all_goals first|trivial|exact⟨rfl,rfl⟩|rfl
 ·rintro m u h' d r ⟨rfl,rfl,rfl,t2,t5⟩
  simp only[sc10r0,sc10r1,sc10r2,sc10r3,sc10r4,sc10r5,sc10d5_x,sc10r6,sc10r7,sc10l8,sc10r9,sc10,↓rwS,↓rwX,rwZ,rwT,rwG,Nat.reduceEqDiff,Nat.reduceAdd,reduceCtorEq,Nat.reduceLT,t2,t5,cu_f3,c3,hl,w0]
end
def mp(ks:List Int):List (PV×PV):=ks.map fun k=>(.int .i64 k,.bool true)
theorem find_mp(k:Int):∀ (ks:List Int) (i:Nat),(k ∉ ks∧findKey (.int .i64 k) (mp ks) i=some none)∨(k∈ks∧∃ j,findKey (.int .i64 k) (mp ks) i=some (some (i+j,.bool true))∧(mp ks)[j]?=some (.int .i64 k,.bool true)):=by
 intro ks
 induction ks with
 |nil=>intro i;exact .inl ⟨by simp,rfl⟩
 |cons a l ih=>
  intro i
  have e:findKey (.int .i64 k) (mp (a::l)) i=(match some (decide (k=a))with|some true=>some (some (i,.bool true))|some false=>findKey (.int .i64 k) (mp l) (i+1)|none=>none):=by
   show(match eqKey (.int .i64 k) (.int .i64 a)with|some true=>_|some false=>_|none=>_)=_
   have:eqKey (.int .i64 k) (.int .i64 a)=some (decide (k=a)):=by
    unfold eqKey
    simp only[Nat.beq_refl,cond,eqI_eq]
   rw[this]
   rfl
  rw[e]
  by_cases h:k=a
  ·subst h
   rw[decide_eq_true rfl]
   exact .inr ⟨List.mem_cons_self,0,rfl,rfl⟩
  ·rw[decide_eq_false h]
   rcases ih (i+1)with⟨h1,h2⟩|⟨h1,j,h2,h3⟩
   ·exact .inl ⟨by simp [h,h1],h2⟩
   ·exact .inr ⟨List.mem_cons_of_mem _ h1,j+1,by show findKey _ _ _=_;rw[h2];congr 3;omega,h3⟩
theorem u94:cx.under 94=some (.map 3 4):=by kernel_rfl
theorem ko94{k:Int}:keyOk cx 3 (.int .i64 k)=true:=by unfold keyOk;rw[u3];rfl
theorem zb4:zero? cx 4=some (.bool false):=by kernel_rfl
theorem lookup_mp{h:List Ob} {i:Nat} {ks:List Int} {k:Int} (hm:hget h i=.map (mp ks)):lookup? cx h 94 (.map i) (.p (.int .i64 k)) false=some (.p (.bool (decide (k∈ks)))):=by
 unfold lookup? entries?
 rw[u94]
 simp only[hm,zb4,ko94,cond]
 rcases find_mp k ks 0 with⟨h1,h2⟩|⟨h1,j,h2,h3⟩
 ·rw[h2,decide_eq_false h1];rfl
 ·rw[h2,decide_eq_true h1];rfl
theorem upd_mp{h:List Ob} {i:Nat} {ks:List Int} {k:Int} (hm:hget h i=.map (mp ks)):∃ ks',(∀ q,q∈ks'↔q=k∨q∈ks)∧mapUpdate? cx h 94 (.map i) (.p (.int .i64 k)) (.p (.bool true))=.wh undefA (hset h i (.map (mp ks'))):=by
 have e:mapUpdate? cx h 94 (.map i) (.p (.int .i64 k)) (.p (.bool true))=mapSet h i (.int .i64 k) (.bool true):=by
  unfold mapUpdate?
  rw[u94]
  simp only[ko94,cond]
  rfl
 rw[e]
 unfold mapSet
 simp only[hm]
 rcases find_mp k ks 0 with⟨h1,h2⟩|⟨h1,j,h2,h3⟩
 ·refine⟨ks++[k],fun q=>by simp [or_comm],?_⟩
  rw[h2]
  simp only[lnf_eq,hsetK_eq]
  rw[show mp ks++[(.int .i64 k,.bool true)]=mp (ks++[k]) by unfold mp;rw[List.map_append];rfl]
 ·refine⟨ks,fun q=>⟨fun hq=>.inr hq,fun hq=>by rcases hq with rfl|hq;exact h1;exact hq⟩,?_⟩
  rw[h2]
  simp only[Nat.zero_add,h3,lnf_eq,hsetK_eq]
  have:(mp ks).set j (.int .i64 k,.bool true)=mp ks:=by
   apply List.ext_getElem?
   intro n
   rw[List.getElem?_set]
   split
   ·rename_i q
    subst q
    split
    ·exact h3.symm
    ·rename_i q;rw[List.getElem?_eq_none (by omega)]
   ·rfl
  rw[this]
section
variable {c:Ctx} {t:Tm} {h:List Ob}
theorem opD_makeMap{ty}:opD (.makeMap ty none) c t h=.wn (.map h.length) (.map []):=by
 show forceN h.length (fun n=>VH.wn (.map n) (.map []))=_
 rw[forceN_eq]
theorem opD_lookup{ty x k ok}:opD (.lookup ty x k ok) c t h=.ofO (lookup? c h ty (ev c t x) (ev c t k) ok):=(rfl)
theorem opD_mapU{ty m k v}:opD (.mapUpdate ty m k v) c t h=mapUpdate? c h ty (ev c t m) (ev c t k) (ev c t v):=(rfl)
end
def metP(c d:Cur) (i:Nat) (k:Int):Prop:=(∃ j,j<c.l.length∧(c.l.getD j Stp.z).no=k)∨∃ j,j<i∧(d.l.getD j Stp.z).no=k
open Classical in
noncomputable def visN(c d:Cur):Nat→Nat
 |0=>0
 |i+1=>if metP c d i (d.l.getD i Stp.z).no then visN c d i else visN c d i+1
theorem visN_in{c d:Cur} {i:Nat} (h:metP c d i (d.l.getD i Stp.z).no):visN c d (i+1)=visN c d i:=by
 conv=>lhs;unfold visN
 exact if_pos h
theorem visN_out{c d:Cur} {i:Nat} (h:¬metP c d i (d.l.getD i Stp.z).no):visN c d (i+1)=visN c d i+1:=by
 conv=>lhs;unfold visN
 exact if_neg h
theorem visN_le{c d:Cur}:∀ i,visN c d i≤i
 |0=>Nat.le_refl _
 |i+1=>by have:=visN_le (c:=c) (d:=d) i;unfold visN;split<;>omega
end Go.Proofs

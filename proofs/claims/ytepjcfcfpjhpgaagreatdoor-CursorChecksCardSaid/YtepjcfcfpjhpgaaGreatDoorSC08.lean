/- What is proved: contracts of reading a node, of the program and of the specification. Conditions: the space is of the bounds of the law. -/
import Derived.Test.YtepjcfcfpjhpgaaGreatDoorSC07
set_option linter.all false
set_option maxRecDepth 100000
namespace Go.Proofs
open Go Go.Ai
def Pg.z:Pg:=⟨0,0,0,0,0,false,.nils,0,[],.nils,[],[]⟩
theorem zpg:zero? cx 62=some Pg.z.V:=by kernel_rfl
theorem zpg_c:Pg.z.V.cells.map AV.p=Pg.z.cs.map AV.p:=(rfl)
section
variable {g:Pg} {h:List Ob}
theorem pe_st:store? cx (h++[.cells 62 (Pg.z.cs.map .p)]) 62 (.ptr h.length 0) (.p g.V)=.ws undefA h.length g.c:=
 store_whole s62 (hget_end _ _) (show _=some (g.cs.map AV.p)from rfl) rfl rfl
theorem pe_w:load? cx (h++[g.c]) 62 (.ptr h.length 0)=some (.p g.V):=(load_whole a62 s62 (hget_end _ _) rfl).trans rfl
theorem pe_0:load? cx (h++[g.c]) 3 (.ptr h.length 0)=some (.p (.int .i64 g.kd)):=load_one a3 (hget_end _ _) rfl
theorem pe_1:load? cx (h++[g.c]) 3 (.ptr h.length 1)=some (.p (.int .i64 g.no)):=load_one a3 (hget_end _ _) rfl
theorem pe_4:load? cx (h++[g.c]) 3 (.ptr h.length 4)=some (.p (.int .i64 g.lv)):=load_one a3 (hget_end _ _) rfl
theorem pe_6:load? cx (h++[g.c]) 59 (.ptr h.length 6)=some (.p g.ep):=load_one a59 (hget_end _ _) rfl
theorem pg_eok:EOk cx 62 g.V:=eok_agg a62 s62 rfl
end
structure SpcG (S:Spc) (gs:List Pg):Prop where
 pg:S.pgs=gs.map Pg.V
 ok:∀ g∈gs,g.ok
def kindN(lv:Int):Int:=if lv=0 then 1 else 2
open Classical in
noncomputable def rdB(S:Spc) (gs:List Pg) (no lv:Int):Bool:=decide (2≤no∧no<(gs.length:Int)∧no ∉ S.fr∧(gs.getD no.toNat Pg.z).no=no∧(gs.getD no.toNat Pg.z).kd=kindN lv∧(gs.getD no.toNat Pg.z).lv=lv∧(gs.getD no.toNat Pg.z).isB=true)
theorem gs_mem{gs:List Pg} {k:Nat} (hk:k<gs.length):gs.getD k Pg.z∈gs:=by
 rw[List.getD,List.getElem?_eq_getElem hk];exact List.getElem_mem hk
theorem pg_at{h:List Ob} {v:AV} {gs:List Pg} {no:Int} (H:Sl h 10 v (gs.map Pg.V)) (h0:0≤no) (hk:no<(gs.length:Int)) :
  indexAddr? cx 22 v (.p (.int .i64 no))=some (rdS v no.toNat)∧load? cx h 62 (rdS v no.toNat)=some (.p (gs.getD no.toNat Pg.z).V):=by
 have hl:no.toNat<gs.length:=by omega
 constructor
 ·exact H.at (sz:=9) u22 s62 h0 (by rw[List.length_map];omega)
 ·have e:(gs.map Pg.V).getD no.toNat .nilp=(gs.getD no.toNat Pg.z).V:=by simp [List.getD,hl]
  have:=H.load (c:=cx) (e:=62) (k:=no.toNat) (by rw[List.length_map];exact hl) (by rw[e];exact pg_eok)
  rw[this,e]
section
variable {o:Orc} (ho:FreeT o)
include ho
theorem call158_b{b:Bool} {e:Int} {h dst t d r K Q}:callW cx o dst t h d r (some (.fn 158 [.p (.bool b),.p (.int .i64 e)])) K Q=splitT (K (put dst (.tup []) t) h d r) (Q (.pan (.p (failV e))) t h d r) (.mk b):=by
 cases b with
 |true=>rw[call53_t ho,splitT_t]
 |false=>rw[call53_f ho,splitT_f]
theorem node232{h0 cs0} {S:Spc} {gs:List Pg} (O:SpcOk S) (hs:S.Sound) (G:SpcG S gs) (W:WK h0 257 cs0 S.cvs) (no lv:Int) :
  Ct cx o (.fn 232 [.ptr 0 0,.p (.int .i64 no),.p (.int .i64 lv)]) h0 (fun e h1=>(∃ ext,h1=h0++ext)∧e=if rdB S gs no lv=true then .ret (.p (gs.getD no.toNat Pg.z).ep)else .pan (.p (failV 8))):=by
 refine ct232 (ho _ _ _ (by decide) (by decide)) rfl ?_
 obtain⟨x0,x1,x2,x3,x4,x5,rfl,q0,q1,q2,q3,q4,q5⟩:=l2_6 W.co
 have d0:∀ ext,load? cx (h0++ext) 22 (.ptr 0 0)=some x0:=fun ext=>(W.ext ext).ld a22 rfl
 have d1:∀ ext,load? cx (h0++ext) 23 (.ptr 0 1)=some x1:=fun ext=>(W.ext ext).ld a23 rfl
 have d00:=d0 []
 have d10:=d1 []
 rw[List.append_nil]at d00 d10
 rw[G.pg]at q0
 have hS0:=q0.sl' (.own _ _)
 have e0:lenW cx h0 22 x0=.w (.p (.int .i64 (gs.length:Int))):=by rw[hS0.len u22,List.length_map]
 have hk1:IsS 1 (clV 3 1 (.pv S.p1) (ints S.fr)) (ints S.fr):=clV_is O.h1.is
 have hinc:Inc S.fr:=(hs.2.1 0 (by omega)).inc
 have hc:=has_cs ho (x:=no) q1 hk1 hinc O.l1
 have ia:decide (2≤no)=true→decide (no<(gs.length:Int))=true→indexAddr? cx 22 x0 (.p (.int .i64 no))=some (rdS x0 no.toNat):=fun a b=>(pg_at hS0 (by have:=of_decide_eq_true a;omega) (of_decide_eq_true b)).1
 have ld:decide (2≤no)=true→decide (no<(gs.length:Int))=true→load? cx h0 62 (rdS x0 no.toNat)=some (.p (gs.getD no.toNat Pg.z).V):=fun a b=>(pg_at hS0 (by have:=of_decide_eq_true a;omega) (of_decide_eq_true b)).2
 have hg:decide (2≤no)=true→decide (no<(gs.length:Int))=true→(gs.getD no.toNat Pg.z).ok:=fun a b=>G.ok _ (gs_mem (by have:=of_decide_eq_true a;have:=of_decide_eq_true b;omega))
 have c138:decide (2≤no)=true→decide (no<(gs.length:Int))=true→∀ {h dst t d r K Q},callW cx o dst t h d r (some (.fn 138 [.p (gs.getD no.toNat Pg.z).V])) K Q=K (put dst (.p (.int .i64 (if(gs.getD no.toNat Pg.z).isB=true then 0 else 2))) t) h d r:=fun a b=>call138 ho (hg a b)
 have fin:decide ((if(gs.getD no.toNat Pg.z).isB=true then(0:Int)else 2)=0)=(gs.getD no.toNat Pg.z).isB:=by
  cases (gs.getD no.toNat Pg.z).isB<;>rfl
 clear hg
 simp only[sc232r0,sc232r1,sc232r2,sc232r3,sc232r4,sc232r5,sc232r6,sc232r7,sc232,↓rwS,↓rwX,rwZ,rwT,rwG,Nat.reduceEqDiff,Nat.reduceAdd,reduceCtorEq,Nat.reduceLT,fA,fa0,fa1,d00,d10,e0,callW_ret ext274 hc,call158_b ho,zpg,zpg_c,pe_st,pe_w,pe_0,pe_1,pe_4,pe_6,pg_f0,pg_f1,pg_f4,pg_f6,hset_end,fin, *]
 repeat' (refine spl (fun hb=>?_) (fun hb=>?_)<;>try simp only[sc232r0,sc232r1,sc232r2,sc232r3,sc232r4,sc232r5,sc232r6,sc232r7,sc232,↓rwS,↓rwX,rwZ,rwT,rwG,Nat.reduceEqDiff,Nat.reduceAdd,reduceCtorEq,Nat.reduceLT,fA,fa0,fa1,d00,d10,e0,callW_ret ext274 hc,call158_b ho,zpg,zpg_c,pe_st,pe_w,pe_0,pe_1,pe_4,pe_6,pg_f0,pg_f1,pg_f4,pg_f6,hset_end,fin, *])
 all_goals first
  | (refine⟨⟨_,rfl⟩,?_⟩;first|rw[if_pos (by unfold rdB kindN;grind)]|rw[if_neg (by unfold rdB kindN;grind)])
  | (refine⟨⟨[],(List.append_nil _).symm⟩,?_⟩;first|rw[if_pos (by unfold rdB kindN;grind)]|rw[if_neg (by unfold rdB kindN;grind)])
end
theorem pg_lv{h:List Ob} {v:AV} {gs:List Pg} {k:Nat} (H:Co1 h v (.own 62 10 (gs.map Pg.V))) (hk:k<gs.length) :
  ∃ a,fieldAddr? cx 62 (rdS v k) 4=some a∧load? cx h 3 a=some (.p (.int .i64 (gs.getD k Pg.z).lv)):=by
 cases H with
 | @own i g _ _ _ ex hr=>
  refine⟨.el i g 10 (0+k) 4,?_,?_⟩
  ·show fieldAddr? cx 62 (.el i g 10 (0+k) 0) 4=_
   have hf:=f62_4
   unfold fieldAddr?
   cases hq:fieldOf cx 62 4 with
   |none=>rw[hq]at hf;cases hf
   |some fd=>
    rw[hq]at hf
    have h1:=Option.some.inj hf
    simp only[Prod.mk.injEq]at h1
    simp only[h1.1,h1.2,s3,forceN_eq,Nat.zero_add]
  ·show loadEl cx h 3 i g 10 (0+k) 4=_
   unfold loadEl Ai.rowAt
   rw[hr]
   have e:(gs.map Pg.V)[0+k]?=some (gs.getD k Pg.z).V:=by
    rw[Nat.zero_add,List.getElem?_map,List.getElem?_eq_getElem hk]
    simp [List.getD,hk]
   simp only[Nat.beq_refl,Bool.and_self,cond,pget_eq,e]
   show(match part? cx 3 (gs.getD k Pg.z).cs 4 with|some v=>some (AV.p v)|none=>none)=_
   unfold part?
   rw[a3]
   rfl
theorem rd_es{S:Spc} {gs:List Pg} {no lv:Int} (h:rdB S gs no lv=true):0≤no∧no.toNat<gs.length∧0<(gs.getD no.toNat Pg.z).es.length∧(gs.getD no.toNat Pg.z).lv=lv∧no ∉ S.fr:=by
 unfold rdB at h
 have h:=of_decide_eq_true h
 obtain⟨h1,h2,h3,h4,h5,h6,h7⟩:=h
 refine⟨by omega,by omega,?_,h6,h3⟩
 unfold Pg.isB kindB at h7
 have hk:(gs.getD no.toNat Pg.z).kd=1∨(gs.getD no.toNat Pg.z).kd=2:=by rw[h5];unfold kindN;split<;>simp
 rw[if_pos hk]at h7
 simp only[Bool.and_eq_true]at h7
 have hf:=h7.2.2.2.2.1
 unfold fitsB at hf
 rw[Bool.and_eq_true]at hf
 have hv:ValidP (gs.getD no.toNat Pg.z).es (gs.getD no.toNat Pg.z).lv:=by simpa [validB]using hf.1
 exact hv.2.1
theorem slq_is{sz:Nat} {p:PV} {xs:List PV} (H:SlQ sz p xs) (hn:xs ≠ []):SlP sz p xs:=by
 cases H with
 |sl H=>exact H
 |emp=>exact absurd rfl hn
section
variable {o:Orc} (ho:FreeT o)
include ho
theorem node_cs{h j cs} {S:Spc} {gs:List Pg} (O:SpcOk S) (hs:S.Sound) (G:SpcG S gs) (hj:hget h j=.cells 257 cs) (H:L2 (Co1 h) cs S.cvs) (no lv:Int) :
  ∃ e h1,CS cx o (.fn 232 [.ptr j 0,.p (.int .i64 no),.p (.int .i64 lv)]) h e h1∧h.length≤h1.length∧(∀ k,k<h.length→k ≠ j→k ∉ cs.flatMap ids1→hget h1 k=hget h k) ∧
   (if rdB S gs no lv=true then ∃ v,e=.ret v∧Co1 h1 v (.pv (gs.getD no.toNat Pg.z).ep)else e=.pan (.p (failV 8))):=by
 obtain⟨e,h1,p1,p2,p3,p4,p5,p6⟩:=cs_ptr (c:=cx) (o:=o) (f:=232) («as»:=[.p (.int .i64 no),.p (.int .i64 lv)]) (ps:=[.pv (.int .i64 no),.pv (.int .i64 lv)]) (qps:=S.cvs) (qe:=if rdB S gs no lv=true then .val (.pv (gs.getD no.toNat Pg.z).ep)else .pan (failV 8)) hj H (.cons (.one (.p _)) (.cons (.one (.p _)) .nil)) (fun e qs q=>by split at q<;>cases q) (fun h0 cs0 as0 b1 b2 b3 b4=>by
  obtain⟨y,z,rfl,hy,hz⟩:=l2_2 b4
  have hy':=hy.pv_int
  have hz':=hz.pv_int
  subst hy'
  subst hz'
  obtain⟨e,h1,hr,⟨ext,rfl⟩,he⟩:=node232 ho O hs G ⟨b1,b3⟩ no lv
  refine⟨e,_,hr,by rw[List.length_append];omega,fun j hj hl=>by rw[hget_appL _ _ hl];exact b2 j hj hl,⟨cs0,by rw[hget_appL _ _ (hget_cells_lt b1)];exact b1,b3.ext1 ext⟩,?_⟩
  subst he
  split
  ·exact .val (.one (.p _))
  ·exact .pan _)
 refine⟨e,h1,p1,p2,fun k hk hkj hkc=>p5 k hk hkj hkc (by simp [idsA,ids1]),?_⟩
 split
 ·rename_i q
  rw[if_pos q]at p4
  obtain⟨v,rfl,hv⟩:=p4.val_inv
  refine⟨v,rfl,?_⟩
  cases hv with
  |one h1=>exact h1
 ·rename_i q
  rw[if_neg q]at p4
  cases p4
  rfl
theorem ct200D{args h P} (h1:o 200 args h=none) (ha:Nat.ble args.length 40=true) (hw:xC cx o none sc200 (endD cx o [.tmp 4,.tmp 5,.cell 6 36] 156 P) (argT args 0 .lf) h [] none):Ct cx o (.fn 200 args) h P:=
 ct_def 156 fn200 sc200_ok rfl rfl h1 ha sc200_dst hw
end
def lvAt(gs:List Pg) (no:Int):Int:=(gs.getD no.toNat Pg.z).lv
theorem room64:room cx 64 1000000000=true:=by kernel_rfl
open Classical in
noncomputable def nodeR(S:Spc) (gs:List Pg) (no:Int):QE:=
 if ¬S.Sound then .vals [.pv .nils,.pv (.int .i64 0),.pv (.int .i64 2)]
 else if rdB S gs no (lvAt gs no)=true then .vals [.own 64 22 ((gs.getD no.toNat Pg.z).es.map Ent.V),.pv (.int .i64 (lvAt gs no)),.pv (.int .i64 0)]
 else .vals [.pv .nils,.pv (.int .i64 0),.pv (.int .i64 8)]
section
variable {o:Orc} (ho:FreeT o)
include ho
theorem node200(hI:HasIns o) {S:Spc} {gs:List Pg} (O:SpcOk S) (G:SpcG S gs) (no:Int):Ct cx o (.fn 200 [.p S.v,.p (.int .i64 no)]) [] (fun e h1=>CoE h1 e (nodeR S gs no)):=by
 have hbox:∀ hh:List Ob,boxW hh 25 (.p S.v)=.wn (.ptr hh.length 0) (.cells 25 S.cells):=fun hh=>rfl
 have z36c:(PV.int .i64 0).cells.map AV.p=[.p (.int .i64 0)]:=rfl
 have ldS:∀ l:List Ob,load? cx (.cells 25 S.cells::l) 25 (.ptr 0 0)=some (.p S.v):=fun l=>(load_whole a25 s25 rfl rfl).trans rfl
 unfold nodeR
 by_cases hs:S.Sound
 case neg=>
  rw[if_pos hs]
  refine ct200D ho (ho _ _ _ (by decide) (by decide)) rfl ?_
  simp only[sc200r0,sc200r1,sc200r2,sc200r3,sc200r4,sc200r5,sc200,↓rwS,↓rwX,rwZ,rwT,rwG,Nat.reduceEqDiff,Nat.reduceAdd,reduceCtorEq,Nat.reduceLT,hbox,z36,z36c,List.cons_append,List.nil_append,List.length_cons,List.length_nil,ldS,open_pan ho O hs]
  refine endD_pan _ [.p .nils,.p (.int .i64 0),.p (.int .i64 2)] (def47_pan (n:=0) rfl) ?_ ?_ rfl
  ·have e2:load? cx (hset [Ob.cells 25 S.cells,.cells 36 [.p (.int .i64 0)]] 1 (.cells 36 [.p (.int .i64 2)])) 36 (.ptr 1 0)=some (.p (.int .i64 2)):=load_one a36 rfl rfl
   simp only[↓rwA,rwB,rwG,Nat.reduceEqDiff,Nat.reduceAdd,reduceCtorEq,Nat.reduceLT,e2]
  ·exact .vals (.cons (.one (.p _)) (.cons (.one (.p _)) (.cons (.one (.p _)) .nil)))
 rw[if_neg (fun q=>q hs)]
 refine ct200D ho (ho _ _ _ (by decide) (by decide)) rfl ?_
 obtain⟨j,cs,ext,p1,hj,hL⟩:=open_cs ho hI O hs [Ob.cells 25 S.cells,.cells 36 [.p (.int .i64 0)]]
 have g1:hget ([Ob.cells 25 S.cells,.cells 36 [.p (.int .i64 0)]]++ext) 1=.cells 36 [.p (.int .i64 0)]:=rfl
 have hj1:j ≠ 1:=by rintro rfl;rw[g1]at hj;cases hj
 generalize hM1:[Ob.cells 25 S.cells,.cells 36 [.p (.int .i64 0)]]++ext=M1 at *
 have hL0:=hL
 obtain⟨x0,x1,x2,x3,x4,x5,rfl,q0,q1,q2,q3,q4,q5⟩:=l2_6 hL
 have d0:load? cx M1 22 (.ptr j 0)=some x0:=load_one a22 hj rfl
 have q0':=q0
 rw[G.pg]at q0'
 have hS0:=q0'.sl' (.own _ _)
 have e0:lenW cx M1 22 x0=.w (.p (.int .i64 (gs.length:Int))):=by rw[hS0.len u22,List.length_map]
 have pan:∀ (M:List Ob) (t:Tm),hget M 1=.cells 36 [.p (.int .i64 0)]→t.get 4=.p .nils→t.get 5=.p (.int .i64 0)→t.get 6=.ptr 1 0→¬(rdB S gs no (lvAt gs no)=true) →
   endD cx o [.tmp 4,.tmp 5,.cell 6 36] 156 (fun e h1=>CoE h1 e (if rdB S gs no (lvAt gs no)=true then .vals [.own 64 22 ((gs.getD no.toNat Pg.z).es.map Ent.V),.pv (.int .i64 (lvAt gs no)),.pv (.int .i64 0)]else .vals [.pv .nils,.pv (.int .i64 0),.pv (.int .i64 8)])) (.pan (.p (failV 8))) t M [.fn 156 [.ptr 1 0]] none:=fun M t y1 t4 t5 t6 hn=>by
  refine endD_pan _ [.p .nils,.p (.int .i64 0),.p (.int .i64 8)] (def47_pan (n:=0) y1) ?_ ?_ rfl
  ·have e2:load? cx (hset M 1 (.cells 36 [.p (.int .i64 8)])) 36 (.ptr 1 0)=some (.p (.int .i64 8)):=load_one a36 (by rw[hget_hset _ _ _ _ (hget_cells_lt y1),if_pos rfl]) rfl
   simp only[↓rwA,rwB,rwG,Nat.reduceEqDiff,Nat.reduceAdd,reduceCtorEq,Nat.reduceLT,t4,t5,t6,e2]
  ·rw[if_neg hn]
   exact .vals (.cons (.one (.p _)) (.cons (.one (.p _)) (.cons (.one (.p _)) .nil)))
 by_cases hr:2≤no∧no<(gs.length:Int)
 case neg=>
  simp only[sc200r0,sc200r1,sc200r2,sc200r3,sc200r4,sc200r5,sc200,↓rwS,↓rwX,rwZ,rwT,rwG,Nat.reduceEqDiff,Nat.reduceAdd,reduceCtorEq,Nat.reduceLT,hbox,z36,z36c,List.cons_append,List.nil_append,List.length_cons,List.length_nil,ldS,callW_ret ext157 p1,hM1,fA,fa0,d0,e0,call158_b ho, *]
  repeat' (refine spl (fun hb=>?_) (fun hb=>?_)<;>try simp only[sc200r0,sc200r1,sc200r2,sc200r3,sc200r4,sc200r5,sc200,↓rwS,↓rwX,rwZ,rwT,rwG,Nat.reduceEqDiff,Nat.reduceAdd,reduceCtorEq,Nat.reduceLT,hbox,z36,z36c,List.cons_append,List.nil_append,List.length_cons,List.length_nil,ldS,callW_ret ext157 p1,hM1,fA,fa0,d0,e0,call158_b ho, *])
  all_goals have hn:¬(rdB S gs no (lvAt gs no)=true):=fun q=>by unfold rdB at q;have q:=of_decide_eq_true q;exact hr ⟨q.1,q.2.1⟩
  all_goals first
   | (refine pan _ _ g1 ?_ ?_ ?_ hn<;>simp only[Tm.get_set,Nat.reduceEqDiff,if_true,if_false])
   | (exfalso;grind)
 obtain⟨h2,h3⟩:=hr
 have b1:decide (2≤no)=true:=decide_eq_true h2
 have b2:decide (no<(gs.length:Int))=true:=decide_eq_true h3
 have hk:no.toNat<gs.length:=by omega
 have ia:=(pg_at (no:=no) hS0 (by omega) h3).1
 obtain⟨fa,ga,gl⟩:=pg_lv q0' hk
 have hb0:buildSlice? cx M1 59 0 []=_:=build0 u59 s64 a64 zent
 have hjM:=hget_cells_lt hj
 have hj':hget (M1++[.row 64 22 [] true 0]) j=.cells 257 [x0,x1,x2,x3,x4,x5]:=(hget_appL _ _ hjM).trans hj
 obtain⟨e,M2,p2,k2,k3,k4⟩:=node_cs ho O hs G hj' (hL0.ext1 _) no (lvAt gs no)
 have hid:∀ k,k ∈ [x0,x1,x2,x3,x4,x5].flatMap ids1→k<M1.length∧flat (hget M1 k)=true:=fun k hk=>⟨hget_flat_lt (hL0.flat1 k hk),hL0.flat1 k hk⟩
 have g1M:=hget_cells_lt g1
 have y1:hget M2 1=.cells 36 [.p (.int .i64 0)]:=by
  rw[k3 1 (by simp;omega) (Ne.symm hj1) (fun q=>by have:=(hid 1 q).2;rw[g1]at this;cases this),hget_appL _ _ g1M];exact g1
 have yr:hget M2 M1.length=.row 64 22 [] true 0:=by
  rw[k3 M1.length (by simp) (by omega) (fun q=>by have:=(hid _ q).1;omega)];exact hget_new _ _
 have gl:load? cx M1 3 fa=some (.p (.int .i64 (lvAt gs no))):=gl
 have gl2:load? cx (M1++[.row 64 22 [] true 0]) 3 fa=load? cx (M1++[.row 64 22 [] true 0]) 3 fa:=rfl
 cases hrd:rdB S gs no (lvAt gs no)with
 |false=>
  rw[hrd]at k4
  simp only[Bool.false_eq_true,if_false]at k4
  subst k4
  rw[hrd]at pan
  simp only[sc200r0,sc200r1,sc200r2,sc200r3,sc200r4,sc200r5,sc200,↓rwS,↓rwX,rwZ,rwT,rwG,Nat.reduceEqDiff,Nat.reduceAdd,reduceCtorEq,Nat.reduceLT,hbox,z36,z36c,List.cons_append,List.nil_append,List.length_cons,List.length_nil,ldS,callW_ret ext157 p1,hM1,fA,fa0,d0,e0,b1,b2,call158_b ho,ia,ga,gl,hb0,callW_pan ext232 p2]
  refine pan _ _ y1 ?_ ?_ ?_ (by decide)<;>simp only[Tm.get_set,Nat.reduceEqDiff,if_true,if_false]
 |true=>
  rw[hrd,if_pos rfl]at k4
  obtain⟨v,rfl,hv⟩:=k4
  obtain⟨r0,r1,r2,r3,r4⟩:=rd_es hrd
  have gk:=G.ok _ (gs_mem r1)
  have hsl:=slq_is gk.he (by intro q;have:=congrArg List.length q;rw[List.length_map,List.length_nil]at this;omega)
  have hS:=hv.sl' hsl.is
  obtain⟨v1,M3,a1,⟨jj,gg,a2,a2'⟩,a3',a4,a5,a6⟩:=app_any (c:=cx) (o:=o) (rd:=none) (x:=v) yr s64 (by decide) hS.elems hS.szIsB (room_le room64 (by have:=gk.le;rw[List.length_map,List.length_nil];omega))
  have y3:hget M3 1=.cells 36 [.p (.int .i64 0)]:=by
   rw[a4 1 (by rw[List.length_append]at k2;omega) (by omega)];exact y1
  have st3:=store_one (c:=cx) (ty:=36) (off:=0) (v:=.int .i64 0) (by kernel_rfl) y3 rfl (by decide)
  simp only[List.length_nil,List.nil_append,List.set_cons_zero]at a1 a2 a6 st3
  rw[hrd]at *
  simp only[sc200r0,sc200r1,sc200r2,sc200r3,sc200r4,sc200r5,sc200,↓rwS,↓rwX,rwZ,rwT,rwG,Nat.reduceEqDiff,Nat.reduceAdd,reduceCtorEq,Nat.reduceLT,hbox,z36,z36c,List.cons_append,List.nil_append,List.length_cons,List.length_nil,ldS,callW_ret ext157 p1,hM1,fA,fa0,d0,e0,b1,b2,call158_b ho,ia,ga,gl,hb0,callW_ret ext232 p2,appW_sl u59 u59,a6,st3]
  have l3:=hget_cells_lt y3
  have y4:hget (hset M3 1 (.cells 36 [.p (.int .i64 0)])) 1=.cells 36 [.p (.int .i64 0)]:=by rw[hget_hset _ _ _ _ l3,if_pos rfl]
  refine endD_ret _ [v1,.p (.int .i64 (lvAt gs no)),.p (.int .i64 0)] (def47_ret (n:=0) y4) ?_ ?_ rfl
  ·have e2:load? cx (hset (hset M3 1 (.cells 36 [.p (.int .i64 0)])) 1 (.cells 36 [.p (.int .i64 0)])) 36 (.ptr 1 0)=some (.p (.int .i64 0)):=load_one a36 (by rw[hget_hset _ _ _ _ (hget_cells_lt y4),if_pos rfl]) rfl
   simp only[↓rwA,rwB,rwG,Nat.reduceEqDiff,Nat.reduceAdd,reduceCtorEq,Nat.reduceLT,e2]
  ·refine .vals (.cons (.one ?_) (.cons (.one (.p _)) (.cons (.one (.p _)) .nil)))
   rw[List.length_append]at k2
   have hj31:jj ≠ 1:=by rcases a2' with q|q<;>omega
   rw[a2]at a1 ⊢
   obtain⟨ex,q1,_⟩:=sl_own a1
   have:Own (hset (hset M3 1 (.cells 36 [.p (.int .i64 0)])) 1 (.cells 36 [.p (.int .i64 0)])) 64 22 (.sl jj gg 22 0 ((gs.getD no.toNat Pg.z).es.map Ent.V).length) ((gs.getD no.toNat Pg.z).es.map Ent.V):=.row (by
    rw[hget_hset _ _ _ _ (hget_cells_lt y4),if_neg hj31,hget_hset _ _ _ _ l3,if_neg hj31];exact q1)
   exact this.co1 (by intro q;cases q)
end
section
variable {o:Orc} (ho:FreeT o)
include ho
theorem kind282{lv:Int}:Ct cx o (.fn 282 [.p (.int .i64 lv)]) [] (fun e _=>e=.ret (.p (.int .i64 (kindN lv)))):=by
 refine ct282 (ho _ _ _ (by decide) (by decide)) rfl ?_
 unfold kindN
 simp only[sc282r0,sc282r1,sc282r2,sc282r3,sc282,↓rwS,↓rwX,rwZ,rwT,rwG,Nat.reduceEqDiff,Nat.reduceAdd,reduceCtorEq,Nat.reduceLT, *]
 repeat' (refine spl (fun hb=>?_) (fun hb=>?_)<;>try simp only[sc282r0,sc282r1,sc282r2,sc282r3,sc282,↓rwS,↓rwX,rwZ,rwT,rwG,Nat.reduceEqDiff,Nat.reduceAdd,reduceCtorEq,Nat.reduceLT, *])
 all_goals simp_all
theorem call282{lv:Int} {h dst t d r K Q}:callW cx o dst t h d r (some (.fn 282 [.p (.int .i64 lv)])) K Q=K (put dst (.p (.int .i64 (kindN lv))) t) h d r:=callW_ret ext282 (cs_p (f:=282) (ps:=[.int .i64 lv]) rfl (kind282 ho))
theorem has6_cs{h v cv l} {x:Int} (H:Co1 h v cv) (hs:IsS 1 cv (ints l)) (hl:l.length<1000000000):CS cx o (.fn 246 [v,.p (.int .i64 x)]) h (.ret (.p (.bool (decide (x∈l))))) h:=
 cs_pure (c:=cx) (o:=o) (f:=246) (ps:=[cv,.pv (.int .i64 x)]) (.cons (.one H) (.cons (.one (.p _)) .nil)) rfl fun h0 as0 H0=>by
  obtain⟨v0,y,rfl,hv0,hy⟩:=l2_2 H0
  have hy':=hy.pv_int
  subst hy'
  obtain⟨e,h',hr,a,b⟩:=has57 ho ((hv0.one_s hs).sl' hs) (x:=x) (by omega)
  exact⟨e,h',hr,b,[],by rw[a];simp⟩
def Spc.wvs(S:Spc):List CV:=[.own 62 10 S.pgs,.pv S.p1,.pv S.p2,.pv S.p3,.pv (.int .i64 S.ver),.pv (.int .i64 S.tr)]
theorem read244{h0 xs} {S:Spc} {gs:List Pg} (O:SpcOk S) (G:SpcG S gs) (H:L2 (Co1 h0) xs S.wvs) (no lv:Int) :
  Ct cx o (.fn 244 [.agg xs,.p (.int .i64 no),.p (.int .i64 lv)]) h0 (fun e h1=>e=.ret (.p (.bool (rdB S gs no lv)))∧∃ ext,h1=h0++ext):=by
 refine ct244 (ho _ _ _ (by decide) (by decide)) rfl ?_
 obtain⟨x0,x1,x2,x3,x4,x5,rfl,q0,q1,q2,q3,q4,q5⟩:=l2_6 H
 have d0:load? cx (h0++[.cells 25 [x0,x1,x2,x3,x4,x5]]) 22 (.ptr h0.length 0)=some x0:=load_one a22 (hget_end _ _) rfl
 have d1:load? cx (h0++[.cells 25 [x0,x1,x2,x3,x4,x5]]) 23 (.ptr h0.length 1)=some x1:=load_one a23 (hget_end _ _) rfl
 have q0':=q0.ext [.cells 25 [x0,x1,x2,x3,x4,x5]]
 have q1':=q1.ext [.cells 25 [x0,x1,x2,x3,x4,x5]]
 rw[G.pg]at q0'
 have hS0:=q0'.sl' (.own _ _)
 have e0:lenW cx (h0++[.cells 25 [x0,x1,x2,x3,x4,x5]]) 22 x0=.w (.p (.int .i64 (gs.length:Int))):=by rw[hS0.len u22,List.length_map]
 have hc:=has6_cs ho (x:=no) q1' O.h1.is (by have:=O.l1;omega)
 have ia:decide (no<2)=false→decide ((gs.length:Int)≤no)=false→indexAddr? cx 22 x0 (.p (.int .i64 no))=some (rdS x0 no.toNat):=fun a b=>(pg_at hS0 (by have:=of_decide_eq_false a;omega) (by have:=of_decide_eq_false b;omega)).1
 have ld:decide (no<2)=false→decide ((gs.length:Int)≤no)=false→load? cx (h0++[.cells 25 [x0,x1,x2,x3,x4,x5]]) 62 (rdS x0 no.toNat)=some (.p (gs.getD no.toNat Pg.z).V):=fun a b=>(pg_at hS0 (by have:=of_decide_eq_false a;omega) (by have:=of_decide_eq_false b;omega)).2
 have hg:decide (no<2)=false→decide ((gs.length:Int)≤no)=false→(gs.getD no.toNat Pg.z).ok:=fun a b=>G.ok _ (gs_mem (by have:=of_decide_eq_false a;have:=of_decide_eq_false b;omega))
 have c247:decide (no<2)=false→decide ((gs.length:Int)≤no)=false→∀ {h dst t d r K Q},callW cx o dst t h d r (some (.fn 247 [.p (gs.getD no.toNat Pg.z).V])) K Q=K (put dst (.p (.bool (gs.getD no.toNat Pg.z).isB)) t) h d r:=fun a b=>call247 ho (hg a b)
 clear hg
 simp only[sc244r0,sc244r1,sc244r2,sc244r3,sc244r4,sc244d4_x,sc244,↓rwS,↓rwX,rwZ,rwT,rwG,Nat.reduceEqDiff,Nat.reduceAdd,reduceCtorEq,Nat.reduceLT,boxW_agg,fA,fa0,fa1,d0,d1,e0,callW_ret ext246 hc,zpg,zpg_c,pe_st,pe_w,pe_0,pe_1,pe_4,pe_6,pg_f0,pg_f1,pg_f4,pg_f6,hset_end,call282 ho,↓rwC,rwD,rwI,Nat.reduceSub,Nat.reduceLeDiff,LW_bt,LW_bf, *]
 repeat' (refine spl (fun hb=>?_) (fun hb=>?_)<;>try simp only[sc244r0,sc244r1,sc244r2,sc244r3,sc244r4,sc244d4_x,sc244,↓rwS,↓rwX,rwZ,rwT,rwG,Nat.reduceEqDiff,Nat.reduceAdd,reduceCtorEq,Nat.reduceLT,boxW_agg,fA,fa0,fa1,d0,d1,e0,callW_ret ext246 hc,zpg,zpg_c,pe_st,pe_w,pe_0,pe_1,pe_4,pe_6,pg_f0,pg_f1,pg_f4,pg_f6,hset_end,call282 ho,↓rwC,rwD,rwI,Nat.reduceSub,Nat.reduceLeDiff,LW_bt,LW_bf, *])
 all_goals(refine⟨ret_bool ?_,?_⟩;(unfold rdB kindN at *;grind);first|exact⟨_,rfl⟩|exact⟨_,List.append_assoc _ _ _⟩)
end
theorem sl_fld{c:Ctx} {h:List Ob} {v:AV} {xs:List PV} {k sz:Nat} {s ty:TypeId} {f m:Nat} {w:PV} (H:Sl h sz v xs) (hk:k<xs.length)
  (hf:(fieldOf c s f).map (fun f=>(f.type,f.offset))=some (ty,m)) (hs:sizeOf? c ty=some 1) (ha:aggT? c ty=some false) (hw:pget (xs.getD k .nilp).cells m=some w) (hn:∀ cs,w ≠ .agg cs) :
  ∃ a,fieldAddr? c s (rdS v k) f=some a∧load? c h ty a=some (.p w):=by
 cases hq:fieldOf c s f with
 |none=>rw[hq]at hf;cases hf
 |some fd=>
  rw[hq]at hf
  have h1:=Option.some.inj hf
  simp only[Prod.mk.injEq]at h1
  obtain⟨h1,h2⟩:=h1
  have hp:part? c ty (xs.getD k .nilp).cells m=some w:=by unfold part?;rw[ha];exact hw
  have hl:loadC c ty w=some (.p w):=by
   unfold loadC;rw[ha]
   cases w<;>first|rfl|exact absurd rfl (hn _)
  cases H with
  |nil=>simp at hk
  |vec|full=>
   refine⟨.cptr w,?_,hl⟩
   unfold fieldAddr?
   simp only[hq,h1,hs,h2,rdS,hp]
  | @sl i g off len ys _ hr hs'=>
   refine⟨.el i g sz (off+k) m,?_,?_⟩
   ·unfold fieldAddr?
    simp only[hq,h1,hs,h2,rdS,forceN_eq,Nat.zero_add]
   ·show loadEl c h ty i g sz (off+k) m=_
    unfold loadEl
    rw[hr]
    obtain⟨g1,g2,g3⟩:=sub_len hs'
    have hg:ys[off+k]?=some (xs.getD k .nilp):=by
     subst g3
     have:k<len:=by omega
     rw[List.getElem?_eq_getElem (by omega)]
     simp [List.getD,this,show off+k<ys.length by omega]
    simp only[pget_eq,hg,hp]
def lvW(gs:List Pg) (no:Int):Int:=if no<0∨(gs.length:Int)≤no then -1 else lvAt gs no
theorem pg_d{gs:List Pg} {k:Nat} (hk:k<gs.length):(gs.map Pg.V).getD k .nilp=(gs.getD k Pg.z).V:=by simp [List.getD,hk]
theorem pg_lvS{h:List Ob} {v:AV} {gs:List Pg} {k:Nat} (H:Sl h 10 v (gs.map Pg.V)) (hk:k<gs.length) :
  ∃ a,fieldAddr? cx 62 (rdS v k) 4=some a∧load? cx h 3 a=some (.p (.int .i64 (gs.getD k Pg.z).lv)):=
 sl_fld H (by rw[List.length_map];exact hk) f62_4 s3 a3 (by rw[pg_d hk];rfl) (fun cs q=>by cases q)
theorem slq_na{sz p xs cs} (H:SlQ sz p xs):p ≠ .agg cs:=by
 cases H with
 |sl H=>cases H<;>(intro q;cases q)
 |emp=>intro q;cases q
theorem pg_epS{h:List Ob} {v:AV} {gs:List Pg} {k:Nat} (H:Sl h 10 v (gs.map Pg.V)) (hk:k<gs.length) (hg:∀ g∈gs,g.ok) :
  ∃ a,fieldAddr? cx 62 (rdS v k) 6=some a∧load? cx h 59 a=some (.p (gs.getD k Pg.z).ep):=
 sl_fld H (by rw[List.length_map];exact hk) f62_6 s59 a59 (by rw[pg_d hk];rfl) (fun cs q=>slq_na (hg _ (gs_mem hk)).he q)
section
variable {o:Orc} (ho:FreeT o)
include ho
theorem level171{h0 cs0 c0 c1 c2 c3 ver tr E} {gs:List Pg} (W:WK h0 164 cs0 (wkC c0 c1 c2 c3 ver tr E)) (hs:IsS 10 c0 (gs.map Pg.V)) (no:Int) :
  Ct cx o (.fn 171 [.ptr 0 0,.p (.int .i64 no)]) h0 (fun e h1=>h1=h0∧e=.ret (.p (.int .i64 (lvW gs no)))):=by
 refine ct171 (ho _ _ _ (by decide) (by decide)) rfl ?_
 obtain⟨x0,x1,x2,x3,x4,x5,x6,rfl,q0,q1,q2,q3,q4,q5,q6⟩:=l2_7 W.co
 have d0:load? cx h0 22 (.ptr 0 0)=some x0:=W.ld a22 rfl
 have hS0:=q0.sl' hs
 have e0:lenW cx h0 22 x0=.w (.p (.int .i64 (gs.length:Int))):=by rw[hS0.len u22,List.length_map]
 have fb0:∀ k,fieldAddr? cx 164 (.ptr k 0) 0=some (.ptr k 0):=fun k=>fieldAddr_ptr (m:=5) f164_0 s25
 unfold lvW
 by_cases h1:no<0
 ·rw[if_pos (.inl h1)]
  have b1:decide (no<0)=true:=decide_eq_true h1
  simp only[sc171r0,sc171r1,sc171r2,sc171r3,sc171,↓rwS,↓rwX,rwZ,rwT,rwG,Nat.reduceEqDiff,Nat.reduceAdd,reduceCtorEq,Nat.reduceLT,fb0,fa0,d0,e0,b1]
  simp
 have b1:decide (no<0)=false:=decide_eq_false h1
 by_cases h2:(gs.length:Int)≤no
 ·rw[if_pos (.inr h2)]
  have b2:decide ((gs.length:Int)≤no)=true:=decide_eq_true h2
  simp only[sc171r0,sc171r1,sc171r2,sc171r3,sc171,↓rwS,↓rwX,rwZ,rwT,rwG,Nat.reduceEqDiff,Nat.reduceAdd,reduceCtorEq,Nat.reduceLT,fb0,fa0,d0,e0,b1,b2]
  simp
 have b2:decide ((gs.length:Int)≤no)=false:=decide_eq_false h2
 rw[if_neg (by rintro(q|q)<;>contradiction)]
 have ia:=(pg_at (no:=no) hS0 (by omega) (by omega)).1
 obtain⟨fa,ga,gl⟩:=pg_lvS hS0 (k:=no.toNat) (by omega)
 simp only[sc171r0,sc171r1,sc171r2,sc171r3,sc171,↓rwS,↓rwX,rwZ,rwT,rwG,Nat.reduceEqDiff,Nat.reduceAdd,reduceCtorEq,Nat.reduceLT,fb0,fa0,d0,e0,b1,b2,ia,ga,gl]
 unfold lvAt
 simp
theorem node172{h0 cs0} {S:Spc} {gs:List Pg} {E:Int} {c0:CV} (O:SpcOk S) (G:SpcG S gs) (no lv:Int) (hE:E=0→c0=.own 62 10 S.pgs) (W:WK h0 164 cs0 (wkC c0 (.pv S.p1) (.pv S.p2) (.pv S.p3) S.ver S.tr E)) :
  Ct cx o (.fn 172 [.ptr 0 0,.p (.int .i64 no),.p (.int .i64 lv)]) h0 (fun e h1=>FU h0 h1∧(∃ cs1,WK h1 164 cs1 (wkC c0 (.pv S.p1) (.pv S.p2) (.pv S.p3) S.ver S.tr (if E=0 then needE (rdB S gs no lv) 0 8 else E)))∧CoE h1 e (.val (.pv (if E=0∧rdB S gs no lv=true then(gs.getD no.toNat Pg.z).ep else .nils)))):=by
 refine ct172 (ho _ _ _ (by decide) (by decide)) rfl ?_
 have W0:=W
 obtain⟨x0,x1,x2,x3,x4,x5,x6,rfl,q0,q1,q2,q3,q4,q5,q6⟩:=l2_7 W.co
 have q6':=co1_int q6
 subst q6'
 have fb0:∀ k,fieldAddr? cx 164 (.ptr k 0) 0=some (.ptr k 0):=fun k=>fieldAddr_ptr (m:=5) f164_0 s25
 have fb1:∀ k,fieldAddr? cx 164 (.ptr k 0) 1=some (.ptr k 6):=fun k=>fieldAddr_ptr (m:=0) f164_1 s36
 have d6:load? cx h0 36 (.ptr 0 6)=some (.p (.int .i64 E)):=W.ld a36 rfl
 by_cases h1:E=0
 case neg=>
  rw[if_neg h1,if_neg (fun q=>h1 q.1)]
  have b1:decide (E=0)=false:=decide_eq_false h1
  simp only[sc172r0,sc172r1,sc172r2,sc172r3,sc172,↓rwS,↓rwX,rwZ,rwT,rwG,Nat.reduceEqDiff,Nat.reduceAdd,reduceCtorEq,Nat.reduceLT,fb0,fb1,d6,h1,b1,decide_false,Bool.not_false]
  exact⟨FU.refl _,⟨_,W0⟩,.val (.one (.p _))⟩
 have hc0:=hE h1
 subst hc0
 subst h1
 rw[if_pos rfl]
 have dS:load? cx h0 25 (.ptr 0 0)=some (mkAgg [x0,x1,x2,x3,x4,x5]):=load_part a25 s25 W.at0 (by show 0+6≤7;omega)
 have hm:mkAgg [x0,x1,x2,x3,x4,x5]=.agg [x0,x1,x2,x3,x4,x5]:=by cases q0;rfl
 rw[hm]at dS
 have cR:CS cx o (.fn 244 [.agg [x0,x1,x2,x3,x4,x5],.p (.int .i64 no),.p (.int .i64 lv)]) h0 (.ret (.p (.bool (rdB S gs no lv)))) h0:=
  cs_pure (c:=cx) (o:=o) (f:=244) (ps:=[.agg S.wvs,.pv (.int .i64 no),.pv (.int .i64 lv)]) (.cons (.agg (.cons q0 (.cons q1 (.cons q2 (.cons q3 (.cons q4 (.cons q5 .nil))))))) (.cons (.one (.p _)) (.cons (.one (.p _)) .nil))) rfl fun h0 as0 H0=>by
   cases H0 with
   |cons ha H1=>
    obtain⟨y,z,rfl,hy,hz⟩:=l2_2 H1
    have hy':=hy.pv_int
    have hz':=hz.pv_int
    subst hy'
    subst hz'
    cases ha with
    |one q=>cases q
    |agg q=>exact read244 ho O G q no lv
 obtain⟨h1,p1,⟨cs1,p2,p3⟩,p4,p5,p6⟩:=need_cs ho (b:=rdB S gs no lv) (e:=8) W0.at0 W0.co
 have U:FU h0 h1:=⟨p4,fun k k1 k2 k3=>p6 k k2 (by omega) k3⟩
 cases hr:rdB S gs no lv with
 |false=>
  rw[hr]at p1 p3 cR
  have hn:needE false 0 8=8:=rfl
  rw[hn]at p1 p3 ⊢
  have h8:decide ((8:Int)=0)=false:=rfl
  rw[h8]at p1
  simp only[sc172r0,sc172r1,sc172r2,sc172r3,sc172,↓rwS,↓rwX,rwZ,rwT,rwG,Nat.reduceEqDiff,Nat.reduceAdd,reduceCtorEq,Nat.reduceLT,fb0,fb1,d6,dS,callW_ret ext244 cR,callW_ret ext89 p1,decide_true,Bool.not_true,Bool.not_false]
  rw[if_neg (fun q=>by cases q.2)]
  exact⟨U,⟨_,p2,p3⟩,.val (.one (.p _))⟩
 |true=>
  rw[hr]at p1 p3 cR
  have hn:needE true 0 8=0:=rfl
  rw[hn]at p1 p3 ⊢
  have h8:decide ((0:Int)=0)=true:=rfl
  rw[h8]at p1
  obtain⟨r0,r1,r2,r3,r4⟩:=rd_es hr
  have p30:=p3
  obtain⟨y0,y1,y2,y3,y4,y5,y6,rfl,g0,g1,g2,g3,g4,g5,g6⟩:=l2_7 p3
  have d0:load? cx h1 22 (.ptr 0 0)=some y0:=load_one a22 p2 rfl
  rw[G.pg]at g0
  have hS0:=g0.sl' (.own _ _)
  have ia:=(pg_at (no:=no) hS0 r0 (by omega)).1
  obtain⟨fa,ga,gl⟩:=pg_epS hS0 r1 G.ok
  simp only[sc172r0,sc172r1,sc172r2,sc172r3,sc172,↓rwS,↓rwX,rwZ,rwT,rwG,Nat.reduceEqDiff,Nat.reduceAdd,reduceCtorEq,Nat.reduceLT,fb0,fb1,fa0,d6,dS,callW_ret ext244 cR,callW_ret ext89 p1,decide_true,Bool.not_true,Bool.not_false,d0,ia,ga,gl]
  exact⟨U,⟨_,p2,p30⟩,.val (.one (.p _))⟩
end
theorem nod_cells{h:List Ob} {v:AV} {sz p xs} {a b:Int} (H:Co1 h v (.pv p)) (hp:SlP sz p xs):(mkAgg [v,.p (.int .i64 a),.p (.int .i64 b)]).cells?=some [v,.p (.int .i64 a),.p (.int .i64 b)]:=by
 cases hp<;>cases H<;>rfl
theorem b153{h:List Ob} {v:AV} {sz p xs} {a:Int} (H:Co1 h v (.pv p)) (hp:SlP sz p xs):build? cx 153 [(0,v),(1,.p (.int .i64 a))]=some (mkAgg [v,.p (.int .i64 a),.p (.int .i64 0)]):=by
 cases hp<;>cases H<;>kernel_rfl
theorem b153e{a:Int}:build? cx 153 [(2,.p (.int .i64 a))]=some (mkAgg [.p .nils,.p (.int .i64 0),.p (.int .i64 a)]):=by kernel_rfl
theorem z153:zero? cx 153=some (.agg [.nils,.int .i64 0,.int .i64 0]):=by kernel_rfl
open Classical in
noncomputable def nodE(S:Spc) (gs:List Pg) (no:Int):Int:=if ¬S.Sound then 2 else if rdB S gs no (lvW gs no)=true then 0 else 8
noncomputable def nodP(S:Spc) (gs:List Pg) (no:Int):PV:=if nodE S gs no=0 then(gs.getD no.toNat Pg.z).ep else .nils
noncomputable def nodL(S:Spc) (gs:List Pg) (no:Int):Int:=if nodE S gs no=0 then lvW gs no else 0
theorem nod_slp{S:Spc} {gs:List Pg} (G:SpcG S gs) (no:Int):∃ xs,SlP 22 (nodP S gs no) xs∧(nodE S gs no=0→xs=(gs.getD no.toNat Pg.z).es.map Ent.V):=by
 unfold nodP
 by_cases h:nodE S gs no=0
 ·rw[if_pos h]
  have hr:rdB S gs no (lvW gs no)=true:=by
   unfold nodE at h
   split at h
   ·cases h
   ·split at h
    ·assumption
    ·cases h
  obtain⟨r0,r1,r2,r3,r4⟩:=rd_es hr
  exact⟨_,slq_is (G.ok _ (gs_mem r1)).he (by intro q;have:=congrArg List.length q;rw[List.length_map,List.length_nil]at this;omega),fun _=>rfl⟩
 ·rw[if_neg h]
  exact⟨[],.nil,fun q=>absurd q h⟩
section
variable {o:Orc} (ho:FreeT o)
include ho
theorem lev_cs{h j cs c0 c1 c2 c3 ver tr E} {gs:List Pg} {no:Int} (hj:hget h j=.cells 164 cs) (H:L2 (Co1 h) cs (wkC c0 c1 c2 c3 ver tr E)) (hs:IsS 10 c0 (gs.map Pg.V)) :
  ∃ h1,CS cx o (.fn 171 [.ptr j 0,.p (.int .i64 no)]) h (.ret (.p (.int .i64 (lvW gs no)))) h1∧(∃ cs1,hget h1 j=.cells 164 cs1∧L2 (Co1 h1) cs1 (wkC c0 c1 c2 c3 ver tr E))∧h.length≤h1.length ∧
   (∀ k,k<h.length→k ≠ j→flat (hget h k)=false→hget h1 k=hget h k):=by
 obtain⟨en,h1,p1,p2,p3,p4,p5,p6⟩:=methK ho (f:=171) (bs:=[.p (.int .i64 no)]) (ps:=[.pv (.int .i64 no)]) (qcvs:=wkC c0 c1 c2 c3 ver tr E) (qe:=.val (.pv (.int .i64 (lvW gs no)))) hj H (.cons (.one (.p _)) .nil) (fun e qs q=>by cases q) (fun h0 cs0 as0 W b3=>by
  obtain⟨y,rfl,hy⟩:=l2_1 b3
  have hy':=hy.pv_int
  subst hy'
  obtain⟨e,h',hr,rfl,rfl⟩:=level171 ho W hs no
  exact⟨_,_,hr,FU.refl _,⟨_,W⟩,.val (.one (.p _))⟩)
 obtain⟨v,rfl,hv⟩:=p3.val_inv
 have hv':=hv.pv_int
 subst hv'
 exact⟨h1,p1,p2,p4,p5⟩
theorem nd_cs{h j cs} {S:Spc} {gs:List Pg} {E:Int} {c0:CV} {no lv:Int} (O:SpcOk S) (G:SpcG S gs) (hE:E=0→c0=.own 62 10 S.pgs) (hj:hget h j=.cells 164 cs) (H:L2 (Co1 h) cs (wkC c0 (.pv S.p1) (.pv S.p2) (.pv S.p3) S.ver S.tr E)) :
  ∃ v h1,CS cx o (.fn 172 [.ptr j 0,.p (.int .i64 no),.p (.int .i64 lv)]) h (.ret v) h1∧Co h1 v (.pv (if E=0∧rdB S gs no lv=true then(gs.getD no.toNat Pg.z).ep else .nils))∧(∃ cs1,hget h1 j=.cells 164 cs1∧L2 (Co1 h1) cs1 (wkC c0 (.pv S.p1) (.pv S.p2) (.pv S.p3) S.ver S.tr (if E=0 then needE (rdB S gs no lv) 0 8 else E)))∧h.length≤h1.length ∧
   (∀ k,k<h.length→k ≠ j→flat (hget h k)=false→hget h1 k=hget h k):=by
 obtain⟨en,h1,p1,p2,p3,p4,p5,p6⟩:=methK ho (f:=172) (bs:=[.p (.int .i64 no),.p (.int .i64 lv)]) (ps:=[.pv (.int .i64 no),.pv (.int .i64 lv)]) (qcvs:=wkC c0 (.pv S.p1) (.pv S.p2) (.pv S.p3) S.ver S.tr (if E=0 then needE (rdB S gs no lv) 0 8 else E)) (qe:=.val (.pv (if E=0∧rdB S gs no lv=true then(gs.getD no.toNat Pg.z).ep else .nils))) hj H (.cons (.one (.p _)) (.cons (.one (.p _)) .nil)) (fun e qs q=>by cases q) (fun h0 cs0 as0 W b3=>by
  obtain⟨y,z,rfl,hy,hz⟩:=l2_2 b3
  have hy':=hy.pv_int
  have hz':=hz.pv_int
  subst hy'
  subst hz'
  exact node172 ho O G no lv hE W)
 obtain⟨v,rfl,hv⟩:=p3.val_inv
 exact⟨v,h1,p1,hv,p2,p4,p5⟩
theorem opened_cs{S:Spc} {gs:List Pg} (O:SpcOk S) (G:SpcG S gs) (h:List Ob):∃ j cs ext c0,CS cx o (.fn 170 [.p S.v]) h (.ret (.ptr j 0)) (h++ext)∧hget (h++ext) j=.cells 164 cs∧L2 (Co1 (h++ext)) cs (wkC c0 (.pv S.p1) (.pv S.p2) (.pv S.p3) S.ver S.tr (if S.soundB=true then 0 else 2))∧IsS 10 c0 (gs.map Pg.V)∧(S.soundB=true→c0=.own 62 10 S.pgs):=by
 by_cases hs:S.Sound
 ·rw[Spc.soundB_t hs,if_pos rfl]
  obtain⟨e,ext,h1,h2⟩:=cs_valP (h:=h) (ps:=[S.v]) (open50_t ho O hs)
  cases h2 with
  |ptr g1 g2=>exact⟨_,_,ext,_,h1,g1,g2,by rw[G.pg];exact .own _ _,fun _=>rfl⟩
 ·rw[Spc.soundB_f hs,if_neg (by decide)]
  obtain⟨e,ext,h1,h2⟩:=cs_valP (h:=h) (ps:=[S.v]) (open50_f ho O hs)
  cases h2 with
  |ptr g1 g2=>exact⟨_,_,ext,_,h1,g1,g2,by rw[← G.pg];exact O.h0.is,fun q=>by cases q⟩
theorem node86{S:Spc} {gs:List Pg} (O:SpcOk S) (G:SpcG S gs) (no:Int) :
  Ct cx o (.fn 86 [.p S.v,.p (.int .i64 no)]) [] (fun e h1=>∃ v,Co1 h1 v (.pv (nodP S gs no))∧e=.ret (mkAgg [v,.p (.int .i64 (nodL S gs no)),.p (.int .i64 (nodE S gs no))])):=by
 refine ct86 (ho _ _ _ (by decide) (by decide)) rfl ?_
 have hbox:∀ hh:List Ob,boxW hh 25 (.p S.v)=.wn (.ptr hh.length 0) (.cells 25 S.cells):=fun hh=>rfl
 have zc:(PV.agg [.nils,.int .i64 0,.int .i64 0]).cells.map AV.p=[.p .nils,.p (.int .i64 0),.p (.int .i64 0)]:=rfl
 have ldS:∀ l:List Ob,load? cx (.cells 25 S.cells::l) 25 (.ptr 0 0)=some (.p S.v):=fun l=>(load_whole a25 s25 rfl rfl).trans rfl
 obtain⟨j,cs,ext,c0,p1,p2,p3,p4,p5⟩:=opened_cs ho O G [Ob.cells 25 S.cells,.cells 153 [.p .nils,.p (.int .i64 0),.p (.int .i64 0)]]
 have g1:hget ([Ob.cells 25 S.cells,.cells 153 [.p .nils,.p (.int .i64 0),.p (.int .i64 0)]]++ext) 1=.cells 153 [.p .nils,.p (.int .i64 0),.p (.int .i64 0)]:=rfl
 have hj1:1 ≠ j:=by rintro rfl;rw[g1]at p2;cases p2
 generalize hM1:[Ob.cells 25 S.cells,.cells 153 [.p .nils,.p (.int .i64 0),.p (.int .i64 0)]]++ext=M1 at *
 obtain⟨M2,k1,⟨cs2,k2,k3⟩,k4,k5⟩:=lev_cs ho (no:=no) p2 p3 p4
 have g2:hget M2 1=.cells 153 [.p .nils,.p (.int .i64 0),.p (.int .i64 0)]:=by rw[k5 1 (hget_cells_lt g1) hj1 (by rw[g1];rfl)];exact g1
 obtain⟨v,M3,n1,n2,⟨cs3,n3,n4⟩,n5,n6⟩:=nd_cs ho (no:=no) (lv:=lvW gs no) O G (fun q=>p5 (by revert q;cases S.soundB<;>simp)) k2 k3
 have g3:hget M3 1=.cells 153 [.p .nils,.p (.int .i64 0),.p (.int .i64 0)]:=by rw[n6 1 (hget_cells_lt g2) hj1 (by rw[g2];rfl)];exact g2
 have eE:(if(if S.soundB=true then(0:Int)else 2)=0 then needE (rdB S gs no (lvW gs no)) 0 8 else(if S.soundB=true then 0 else 2))=nodE S gs no:=by
  unfold nodE needE
  by_cases hs:S.Sound
  ·rw[Spc.soundB_t hs];cases rdB S gs no (lvW gs no)<;>simp [hs]
  ·rw[Spc.soundB_f hs];simp [hs]
 have eP:(if(if S.soundB=true then(0:Int)else 2)=0∧rdB S gs no (lvW gs no)=true then(gs.getD no.toNat Pg.z).ep else PV.nils)=nodP S gs no:=by
  unfold nodP nodE
  by_cases hs:S.Sound
  ·rw[Spc.soundB_t hs];cases rdB S gs no (lvW gs no)<;>simp [hs]
  ·rw[Spc.soundB_f hs];simp [hs]
 rw[eE]at n4
 rw[eP]at n2
 obtain⟨x0,x1,x2,x3,x4,x5,x6,rfl,q0,q1,q2,q3,q4,q5,q6⟩:=l2_7 n4
 have q6':=co1_int q6
 subst q6'
 have fb1:∀ k,fieldAddr? cx 164 (.ptr k 0) 1=some (.ptr k 6):=fun k=>fieldAddr_ptr (m:=0) f164_1 s36
 have d6:load? cx M3 36 (.ptr j 6)=some (.p (.int .i64 (nodE S gs no))):=load_one a36 n3 rfl
 obtain⟨xs,hsl,_⟩:=nod_slp G no
 have n2':=n2.one_s hsl.is
 have l3:=hget_cells_lt g3
 by_cases hE:nodE S gs no=0
 ·have st:store? cx M3 153 (.ptr 1 0) (mkAgg [v,.p (.int .i64 (lvW gs no)),.p (.int .i64 0)])=.ws undefA 1 (.cells 153 [v,.p (.int .i64 (lvW gs no)),.p (.int .i64 0)]):=store_whole s153 g3 (nod_cells n2' hsl) rfl rfl
  have ld:load? cx (hset M3 1 (.cells 153 [v,.p (.int .i64 (lvW gs no)),.p (.int .i64 0)])) 153 (.ptr 1 0)=some (mkAgg [v,.p (.int .i64 (lvW gs no)),.p (.int .i64 0)]):=load_whole a153 s153 (by rw[hget_hset _ _ _ _ l3,if_pos rfl]) rfl
  have b1:decide (nodE S gs no=0)=true:=decide_eq_true hE
  simp only[sc86r0,sc86r1,sc86r2,sc86r3,sc86r4,sc86r5,sc86r6,sc86,↓rwS,↓rwX,rwZ,rwT,rwG,Nat.reduceEqDiff,Nat.reduceAdd,reduceCtorEq,Nat.reduceLT,hbox,z153,zc,List.cons_append,List.nil_append,List.length_cons,List.length_nil,ldS,callW_ret ext170 p1,hM1,callW_ret ext171 k1,callW_ret ext172 n1,fb1,d6,b1,Bool.not_true,b153 n2' hsl,st,ld]
  refine⟨v,?_,?_⟩
  ·exact n2'.hset (by rw[g3];rfl)
  ·unfold nodL;rw[hE,if_pos rfl]
 ·have st:store? cx M3 153 (.ptr 1 0) (mkAgg [.p .nils,.p (.int .i64 0),.p (.int .i64 (nodE S gs no))])=.ws undefA 1 (.cells 153 [.p .nils,.p (.int .i64 0),.p (.int .i64 (nodE S gs no))]):=store_whole s153 g3 rfl rfl rfl
  have ld:load? cx (hset M3 1 (.cells 153 [.p .nils,.p (.int .i64 0),.p (.int .i64 (nodE S gs no))])) 153 (.ptr 1 0)=some (mkAgg [.p .nils,.p (.int .i64 0),.p (.int .i64 (nodE S gs no))]):=load_whole a153 s153 (by rw[hget_hset _ _ _ _ l3,if_pos rfl]) rfl
  have b1:decide (nodE S gs no=0)=false:=decide_eq_false hE
  simp only[sc86r0,sc86r1,sc86r2,sc86r3,sc86r4,sc86r5,sc86r6,sc86,↓rwS,↓rwX,rwZ,rwT,rwG,Nat.reduceEqDiff,Nat.reduceAdd,reduceCtorEq,Nat.reduceLT,hbox,z153,zc,List.cons_append,List.nil_append,List.length_cons,List.length_nil,ldS,callW_ret ext170 p1,hM1,callW_ret ext171 k1,callW_ret ext172 n1,fb1,d6,b1,Bool.not_false,b153e,st,ld]
  refine⟨.p .nils,?_,?_⟩
  ·unfold nodP;rw[if_neg hE];exact .p _
  ·unfold nodL;rw[if_neg hE]
end
end Go.Proofs

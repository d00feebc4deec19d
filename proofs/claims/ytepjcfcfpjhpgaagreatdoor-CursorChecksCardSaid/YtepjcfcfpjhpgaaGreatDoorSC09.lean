/- What is proved: contracts of the program's check of cursors. Conditions: as before. -/
import Derived.Test.YtepjcfcfpjhpgaaGreatDoorSC08
import Derived.Test.YtepjcfcfpjhpgaaGreatDoorSA12
import Derived.Test.YtepjcfcfpjhpgaaGreatDoorSC01
set_option linter.all false
set_option maxRecDepth 100000
namespace Go.Proofs
open Go Go.Ai
structure Tre where
 (rt ct:Int)
 sm:Dig
 deriving DecidableEq
def Tre.cs(t:Tre):List PV:=.int .i64 t.rt :: .int .i64 t.ct::t.sm.cs
def Tre.V(t:Tre):PV:=.agg t.cs
def Tre.z:Tre:=⟨0,0,Dig.z⟩
theorem eqdigK(k:Nat) (a b:Dig):eqT cx (k+20) 27 (.agg a.cs) (.agg b.cs)=some (decide (a=b)):=by
 have h:eqT cx (k+20) 27 (.agg a.cs) (.agg b.cs)=eqEs cx (k+19) 5 1 a.cs b.cs 16 0:=by
  unfold eqT
  rw[u27]
  simp only[s5]
 rw[h,eqE1 (x:=a.d0) (y:=b.d0) rfl rfl,eqE1 (x:=a.d1) (y:=b.d1) rfl rfl,eqE1 (x:=a.d2) (y:=b.d2) rfl rfl,eqE1 (x:=a.d3) (y:=b.d3) rfl rfl,eqE1 (x:=a.d4) (y:=b.d4) rfl rfl,eqE1 (x:=a.d5) (y:=b.d5) rfl rfl,eqE1 (x:=a.d6) (y:=b.d6) rfl rfl,eqE1 (x:=a.d7) (y:=b.d7) rfl rfl,eqE1 (x:=a.d8) (y:=b.d8) rfl rfl,eqE1 (x:=a.d9) (y:=b.d9) rfl rfl,eqE1 (x:=a.e0) (y:=b.e0) rfl rfl,eqE1 (x:=a.e1) (y:=b.e1) rfl rfl,eqE1 (x:=a.e2) (y:=b.e2) rfl rfl,eqE1 (x:=a.e3) (y:=b.e3) rfl rfl,eqE1 (x:=a.e4) (y:=b.e4) rfl rfl,eqE1 (x:=a.e5) (y:=b.e5) rfl rfl,eqEs_z]
 simp only[cnd]
 congr 1
 cases a;cases b
 simp only[Dig.mk.injEq,and_true]
theorem eqi3(k:Nat) (a b:Int):eqT cx (k+1) 3 (.int .i64 a) (.int .i64 b)=some (decide (a=b)):=by
 unfold eqT
 rw[u3]
 simp only[Nat.beq_refl,cond,eqI_eq]
theorem eqtr0(a b:Tre):eqT cx 60 29 a.V b.V=(match eqT cx 58 3 (.int .i64 a.rt) (.int .i64 b.rt)with
  |some true=>(match eqT cx 57 3 (.int .i64 a.ct) (.int .i64 b.ct)with
   |some true=>(match eqT cx 56 27 (.agg a.sm.cs) (.agg b.sm.cs)with|some true=>some true|r=>r)
   |r=>r)
  |r=>r):=by kernel_rfl
theorem eqtr(a b:Tre):eqT cx 60 29 a.V b.V=some (decide (a=b)):=by
 rw[eqtr0,eqi3 57,eqi3 56,eqdigK 36]
 cases a;cases b
 simp only[Tre.mk.injEq]
 rename_i r1 c1 s1 r2 c2 s2
 by_cases h1:r1=r2<;>by_cases h2:c1=c2<;>by_cases h3:s1=s2<;>simp [h1,h2,h3]
theorem eql_tre{q:Bool} {a b:Tre}:bin3 .eql cx 29 q (.p a.V) (.p b.V)=.w (.p (.bool (decide (a=b)))):=by
 have h:bin3 .eql cx 29 q (.p a.V) (.p b.V)=(match eqT cx 60 29 a.V b.V with|some b=>resB b|none=>.no):=by kernel_rfl
 rw[h,eqtr]
 cases decide (a=b)<;>rfl
theorem neq_tre{q:Bool} {a b:Tre}:bin3 .neq cx 29 q (.p a.V) (.p b.V)=.w (.p (.bool (!decide (a=b)))):=by
 have h:bin3 .neq cx 29 q (.p a.V) (.p b.V)=(match eqT cx 60 29 a.V b.V with|some b=>resB (!b)|none=>.no):=by kernel_rfl
 rw[h,eqtr]
 cases decide (a=b)<;>rfl
theorem b29:build? cx 29 []=some (.p Tre.z.V):=by kernel_rfl
theorem tr_w0{t:Tre} {h:List Ob}:load? cx (.cells 29 (t.cs.map .p)::h) 29 (.ptr 0 0)=some (.p t.V):=(load_whole a29 s29 rfl rfl).trans rfl
theorem tr_0{t:Tre} {h:List Ob}:load? cx (.cells 29 (t.cs.map .p)::h) 3 (.ptr 0 0)=some (.p (.int .i64 t.rt)):=load_one a3 rfl rfl
theorem tr_1{t:Tre} {h:List Ob}:load? cx (.cells 29 (t.cs.map .p)::h) 3 (.ptr 0 1)=some (.p (.int .i64 t.ct)):=load_one a3 rfl rfl
theorem tr_f0{i:Nat}:fieldAddr? cx 29 (.ptr i 0) 0=some (.ptr i 0):=fieldAddr_ptr (m:=0) f29_0 s3
theorem tr_f1{i:Nat}:fieldAddr? cx 29 (.ptr i 0) 1=some (.ptr i 1):=fieldAddr_ptr (m:=0) f29_1 s3
def Tre.plB(t:Tre):Bool:=decide (t=Tre.z) || decide (2≤t.rt∧t.rt<4096∧1≤t.ct∧t.ct≤2147483647)
def failC(e:Int):PV:=.face 142 (.agg [.int .i64 e])
theorem z142:zero? cx 142=some (.agg [.int .i64 0]):=by kernel_rfl
theorem s142:sizeOf? cx 142=some 1:=by kernel_rfl
theorem f142_0:(fieldOf cx 142 0).map (fun f=>(f.type,f.offset))=some (36,0):=by kernel_rfl
theorem b142(e:Int):build? cx 142 [(0,.p (.int .i64 e))]=some (.p (.agg [.int .i64 e])):=by kernel_rfl
theorem mf142(p:PV):mkFace cx 142 (.p p)=some (.p (.face 142 p)):=by kernel_rfl
section
variable {o:Orc} (ho:FreeT o)
include ho
theorem plaus149(t:Tre):Ct cx o (.fn 149 [.p t.V]) [] (fun e _=>e=.ret (.p (.bool t.plB))):=by
 refine ct149 (ho _ _ _ (by decide) (by decide)) rfl ?_
 have hbox:∀ hh:List Ob,boxW hh 29 (.p t.V)=.wn (.ptr hh.length 0) (.cells 29 (t.cs.map .p)):=fun hh=>rfl
 simp only[sc149r0,sc149r1,sc149,↓rwS,↓rwX,rwZ,rwT,rwG,Nat.reduceEqDiff,Nat.reduceAdd,reduceCtorEq,Nat.reduceLT,hbox,List.nil_append,List.length_nil,tr_w0,tr_0,tr_1,tr_f0,tr_f1,b29,eql_tre, *]
 repeat' (refine spl (fun hb=>?_) (fun hb=>?_)<;>try simp only[sc149r0,sc149r1,sc149,↓rwS,↓rwX,rwZ,rwT,rwG,Nat.reduceEqDiff,Nat.reduceAdd,reduceCtorEq,Nat.reduceLT,hbox,List.nil_append,List.length_nil,tr_w0,tr_0,tr_1,tr_f0,tr_f1,b29,eql_tre, *])
 all_goals(refine ret_bool ?_;unfold Tre.plB;grind)
theorem plaus85(t:Tre):Ct cx o (.fn 85 [.p t.V]) [] (fun e _=>e=.ret (.p (.bool t.plB))):=by
 refine ct85 (ho _ _ _ (by decide) (by decide)) rfl ?_
 have hbox:∀ hh:List Ob,boxW hh 29 (.p t.V)=.wn (.ptr hh.length 0) (.cells 29 (t.cs.map .p)):=fun hh=>rfl
 simp only[sc85r0,sc85r1,sc85r2,sc85r3,sc85,↓rwS,↓rwX,rwZ,rwT,rwG,Nat.reduceEqDiff,Nat.reduceAdd,reduceCtorEq,Nat.reduceLT,hbox,List.nil_append,List.length_nil,tr_w0,tr_0,tr_1,tr_f0,tr_f1,b29,eql_tre, *]
 repeat' (refine spl (fun hb=>?_) (fun hb=>?_)<;>try simp only[sc85r0,sc85r1,sc85r2,sc85r3,sc85,↓rwS,↓rwX,rwZ,rwT,rwG,Nat.reduceEqDiff,Nat.reduceAdd,reduceCtorEq,Nat.reduceLT,hbox,List.nil_append,List.length_nil,tr_w0,tr_0,tr_1,tr_f0,tr_f1,b29,eql_tre, *])
 all_goals(refine ret_bool ?_;unfold Tre.plB;grind)
theorem call149{t':Tre} {h dst t d r K Q}:callW cx o dst t h d r (some (.fn 149 [.p t'.V])) K Q=K (put dst (.p (.bool t'.plB)) t) h d r:=callW_ret ext149 (cs_p (f:=149) (ps:=[t'.V]) rfl (plaus149 ho t'))
theorem call85{t':Tre} {h dst t d r K Q}:callW cx o dst t h d r (some (.fn 85 [.p t'.V])) K Q=K (put dst (.p (.bool t'.plB)) t) h d r:=callW_ret ext85 (cs_p (f:=85) (ps:=[t'.V]) rfl (plaus85 ho t'))
theorem must_t:Ct cx o (.fn 69 [.p (.int .i64 0)]) [] (fun en _=>en=.ret (.tup [])):=by
 refine ct69 (ho _ _ _ (by decide) (by decide)) rfl ?_
 simp only[sc69r0,sc69r1,sc69,↓rwS,↓rwX,rwZ,rwT,rwG,Nat.reduceEqDiff,Nat.reduceAdd,reduceCtorEq,Nat.reduceLT,decide_true,Bool.not_true]
theorem must_f(e:Int) (he:e ≠ 0):Ct cx o (.fn 69 [.p (.int .i64 e)]) [] (fun en _=>en=.pan (.p (failC e))):=by
 refine ct69 (ho _ _ _ (by decide) (by decide)) rfl ?_
 have b1:decide (e=0)=false:=decide_eq_false he
 simp only[sc69r0,sc69r1,sc69,↓rwS,↓rwX,rwZ,rwT,rwG,Nat.reduceEqDiff,Nat.reduceAdd,reduceCtorEq,Nat.reduceLT,b1,b142,mf142,Bool.not_false]
 first|trivial|exact⟨rfl,rfl⟩|rfl|simp [failC]
theorem call69{e:Int} {h dst t d r K Q}:callW cx o dst t h d r (some (.fn 69 [.p (.int .i64 e)])) K Q=splitT (K (put dst (.tup []) t) h d r) (Q (.pan (.p (failC e))) t h d r) (.mk (decide (e=0))):=by
 by_cases he:e=0
 ·subst he
  rw[decide_eq_true rfl,splitT_t]
  exact callW_ret ext69 (cs_p (f:=69) (ps:=[.int .i64 0]) rfl (must_t ho))
 ·rw[decide_eq_false he,splitT_f]
  exact callW_pan ext69 (cs_panP (f:=69) (ps:=[.int .i64 e]) (must_f ho e he))
theorem skip38:Ct cx o (.fn 38 []) [] (fun en _=>en=.ret (.tup [])):=by
 refine ct38 (ho _ _ _ (by decide) (by decide)) rfl ?_
 simp only[sc38,↓rwS,↓rwX,rwZ,rwT,rwG,Nat.reduceEqDiff,Nat.reduceAdd,reduceCtorEq,Nat.reduceLT]
theorem call38{h dst t d r K Q}:callW cx o dst t h d r (some (.fn 38 [])) K Q=K (put dst (.tup []) t) h d r:=callW_ret ext38 (cs_p (f:=38) (ps:=[]) rfl (skip38 ho))
end
theorem rec37_ret{o:Orc} (n:Int):CtR cx o (.fn 37 [.ptr 0 0,.p (.fn 38)]) [.cells 36 [.p (.int .i64 n)]] .ret (fun e h' r'=>e=.ret (.tup [])∧h'=[.cells 36 [.p (.int .i64 n)]]∧r'=some .ret):=by
 refine ct_scR fn37 sc37_ok rfl rfl rfl sc37_dst ?_
 have e1:bin3 .neq cx 20 (isConst (.tmp 8) || isConst (.const .nilIface)) (.p .nili) (.p .nili)=.w (.p (.bool false)):=by kernel_rfl
 simp only[sc37r0,sc37r1,sc37r2,sc37r3,sc37r4,sc37r5,sc37r6,sc37,↓rwS,rwT,rwG,Nat.reduceEqDiff,Nat.reduceAdd,reduceCtorEq,Nat.reduceLT,e1,endPR_ret,endPR_n]
 all_goals first|trivial|(refine⟨?_,?_,?_⟩<;>first|rfl|trivial)
theorem rec37_pan{o:Orc} (ho:FreeT o) (n x:Int):CtR cx o (.fn 37 [.ptr 0 0,.p (.fn 38)]) [.cells 36 [.p (.int .i64 n)]] (.pan (.p (failC x)) false) (fun e h' r'=>e=.ret (.tup [])∧(∃ ext,h'=.cells 36 [.p (.int .i64 x)]::ext)∧r'=some (.pan (.p (failC x)) true)):=by
 refine ct_scR fn37 sc37_ok rfl rfl rfl sc37_dst ?_
 have e1:∀ b,bin3 .neq cx 20 b (.p (failC x)) (.p .nili)=.w (.p (.bool true)):=fun b=>by cases b<;>kernel_rfl
 have e2:typeAssert? cx 142 true (.p (failC x))=some (.tup [.p (.agg [.int .i64 x]),.p (.bool true)]):=by kernel_rfl
 have st:store? cx [.cells 36 [.p (.int .i64 n)],.cells 142 [.p (.int .i64 0)]] 142 (.ptr 1 0) (.p (.agg [.int .i64 x]))=.ws undefA 1 (.cells 142 [.p (.int .i64 x)]):=store_whole s142 rfl rfl rfl rfl
 have fa:fieldAddr? cx 142 (.ptr 1 0) 0=some (.ptr 1 0):=fieldAddr_ptr (m:=0) f142_0 s36
 have ld:load? cx [.cells 36 [.p (.int .i64 n)],.cells 142 [.p (.int .i64 x)]] 36 (.ptr 1 0)=some (.p (.int .i64 x)):=load_one a36 rfl rfl
 have st2:store? cx [.cells 36 [.p (.int .i64 n)],.cells 142 [.p (.int .i64 x)]] 36 (.ptr 0 0) (.p (.int .i64 x))=.ws undefA 0 (.cells 36 [.p (.int .i64 x)]):=store_one (cs:=[.p (.int .i64 n)]) s36 rfl rfl (by simp)
 simp only[sc37r0,sc37r1,sc37r2,sc37r3,sc37r4,sc37r5,sc37r6,sc37,↓rwS,rwT,rwG,Nat.reduceEqDiff,Nat.reduceAdd,reduceCtorEq,Nat.reduceLT,e1,e2,extractW,aget_eq',z142,PV.cells,List.map_cons,List.map_nil,List.getElem?_cons_zero,List.getElem?_cons_succ,List.length_cons,List.length_nil,st,List.cons_append,List.nil_append,hset2_1,call38 ho,fa,ld,st2,endPR_ret,endPR_n]
 refine⟨?_,?_,?_⟩<;>first|rfl|exact⟨_,rfl⟩|trivial
theorem def37_ret{o:Orc} {h:List Ob} {j:Nat} {n:Int} (hj:hget h j=.cells 36 [.p (.int .i64 n)]):DefRunF 38 cx o 37 j h .ret (hset h j (.cells 36 [.p (.int .i64 n)])) .ret:=by
 obtain⟨e,h',r',⟨k0,hk⟩,rfl,rfl,rfl⟩:=rec37_ret (o:=o) n
 exact inner_cellF (cs:=[.int .i64 n]) (cs':=[.int .i64 n]) (ext:=[]) hj rfl rfl rfl ⟨k0,hk⟩
theorem def37_pan{o:Orc} (ho:FreeT o) {h:List Ob} {j:Nat} {n x:Int} (hj:hget h j=.cells 36 [.p (.int .i64 n)]):DefRunF 38 cx o 37 j h (.pan (.p (failC x)) false) (hset h j (.cells 36 [.p (.int .i64 x)])) (.pan (.p (failC x)) true):=by
 obtain⟨e,h',r',⟨k0,hk⟩,rfl,⟨ext,rfl⟩,rfl⟩:=rec37_pan ho n x
 exact inner_cellF (cs:=[.int .i64 n]) (cs':=[.int .i64 x]) (ext:=ext) hj rfl rfl rfl ⟨k0,hk⟩
structure Stp where
 (no ix:Int)
def Stp.cs(s:Stp):List PV:=[.int .i64 s.no,.int .i64 s.ix]
def Stp.V(s:Stp):PV:=.agg s.cs
def Stp.z:Stp:=⟨0,0⟩
structure Cur where
 t:Tre
 wh:Int
 ky:List UInt8
 pp:PV
 l:List Stp
def Cur.cs(c:Cur):List PV:=c.t.cs++[.int .i64 c.wh,.str c.ky,c.pp]
def Cur.V(c:Cur):PV:=.agg c.cs
structure Cur.ok (c:Cur):Prop where
 hp:SlQ 2 c.pp (c.l.map Stp.V)
 ln:c.l.length<1000000000
 lk:c.ky.length<1000000000
def Spc.ws(S:Spc):List PV:=[S.p0,S.p1,S.p2,S.p3,.int .i64 S.ver,.int .i64 S.tr,.nils]
def nxt(gs:List Pg) (c:Cur):Nat→Int×List UInt8
 |0=>(c.t.rt,[])
 |i+1=>((((gs.getD (c.l.getD i Stp.z).no.toNat Pg.z).es.getD (c.l.getD i Stp.z).ix.toNat Ent.z)).ch,(((gs.getD (c.l.getD i Stp.z).no.toNat Pg.z).es.getD (c.l.getD i Stp.z).ix.toNat Ent.z)).k)
def stpOk(S:Spc) (gs:List Pg) (c:Cur) (i:Nat):Prop:=
 (c.l.getD i Stp.z).no=(nxt gs c i).1∧rdB S gs (c.l.getD i Stp.z).no (lvAt gs (c.l.getD i Stp.z).no)=true∧lvAt gs (c.l.getD i Stp.z).no=(c.l.length:Int)-1-(i:Int)∧0≤(c.l.getD i Stp.z).ix∧(c.l.getD i Stp.z).ix<((gs.getD (c.l.getD i Stp.z).no.toNat Pg.z).es.length:Int)
def standsP(S:Spc) (gs:List Pg) (c:Cur):Prop:=c.l ≠ []∧(∀ i,i<c.l.length→stpOk S gs c i)∧(nxt gs c c.l.length).2=c.ky
theorem hd_of{h:List Ob} {e:TypeId} {cs:List AV} (H:hget h 0=.cells e cs):∃ ext,h=.cells e cs::ext:=by
 cases h with
 |nil=>cases H
 |cons a l=>exact⟨l,by rw[show a=.cells e cs from H]⟩
theorem ent_d{es:List Ent} {k:Nat} (h:k<es.length):(es.map Ent.V).getD k .nilp=(es.getD k Ent.z).V:=by simp [List.getD,h]
theorem stp_at{p:PV} {l:List Stp} {k:Nat} (H:SlQ 2 p (l.map Stp.V)) (hk:k<l.length):indexAddr? cx 30 (.p p) (.p (.int .i64 (k:Int)))=some (.cptr (l.getD k Stp.z).V):=by
 rw[H.at (sz:=1) u30 s93 (by rw[List.length_map];exact hk)]
 simp [List.getD,hk]
theorem stp_len{p:PV} {l:List Stp} (H:SlQ 2 p (l.map Stp.V)) (h:List Ob):lenW cx h 30 (.p p)=.w (.p (.int .i64 (l.length:Int))):=by
 rw[H.len u30 h,List.length_map]
theorem stp_ld{s:Stp} {h:List Ob}:load? cx h 93 (.cptr s.V)=some (.p s.V):=(eok_agg a93 s93 rfl:EOk cx 93 s.V).1
theorem z93:zero? cx 93=some Stp.z.V:=by kernel_rfl
theorem z93c:Stp.z.V.cells.map AV.p=Stp.z.cs.map AV.p:=rfl
section
variable {s:Stp} {h:List Ob}
theorem stp_st:store? cx (h++[.cells 93 (Stp.z.cs.map .p)]) 93 (.ptr h.length 0) (.p s.V)=.ws undefA h.length (.cells 93 (s.cs.map .p)):=
 store_whole s93 (hget_end _ _) (show _=some (s.cs.map AV.p)from rfl) rfl rfl
theorem stp_f0{i:Nat}:fieldAddr? cx 93 (.ptr i 0) 0=some (.ptr i 0):=fieldAddr_ptr (m:=0) f93_0 s3
theorem stp_f1{i:Nat}:fieldAddr? cx 93 (.ptr i 0) 1=some (.ptr i 1):=fieldAddr_ptr (m:=0) f93_1 s3
theorem cu_f0{i:Nat}:fieldAddr? cx 32 (.ptr i 0) 0=some (.ptr i 0):=fieldAddr_ptr (m:=17) f32_0 s29
theorem cu_f1{i:Nat}:fieldAddr? cx 32 (.ptr i 0) 1=some (.ptr i 18):=fieldAddr_ptr (m:=0) f32_1 s3
theorem cu_f2{i:Nat}:fieldAddr? cx 32 (.ptr i 0) 2=some (.ptr i 19):=fieldAddr_ptr (m:=0) f32_2 s9
theorem cu_f3{i:Nat}:fieldAddr? cx 32 (.ptr i 0) 3=some (.ptr i 20):=fieldAddr_ptr (m:=0) f32_3 s30
theorem wa_f0{i:Nat}:fieldAddr? cx 148 (.ptr i 0) 0=some (.ptr i 0):=fieldAddr_ptr (m:=5) f148_0 s25
end
section
variable {o:Orc} (ho:FreeT o)
include ho
theorem node_call(hI:HasIns o) {S:Spc} {gs:List Pg} (O:SpcOk S) (hs:S.Sound) (G:SpcG S gs) (no:Int) (h:List Ob) :
  ∃ v ext,CS cx o (.fn 200 [.p S.v,.p (.int .i64 no)]) h (.ret (.tup [v,.p (.int .i64 (if rdB S gs no (lvAt gs no)=true then lvAt gs no else 0)),.p (.int .i64 (if rdB S gs no (lvAt gs no)=true then 0 else 8))])) (h++ext) ∧
   (rdB S gs no (lvAt gs no)=true→Sl (h++ext) 22 v ((gs.getD no.toNat Pg.z).es.map Ent.V)):=by
 obtain⟨e,ext,h1,h2⟩:=cs_valP (h:=h) (ps:=[S.v,.int .i64 no]) (node200 ho hI O G no)
 unfold nodeR at h2
 rw[if_neg (fun q=>q hs)]at h2
 cases hr:rdB S gs no (lvAt gs no)with
 |true=>
  rw[hr,if_pos rfl]at h2
  cases h2 with
  |vals q=>
   cases q with
   |cons q0 q=>
    obtain⟨y,z,rfl,hy,hz⟩:=l2_2 q
    have hy':=hy.pv_int
    have hz':=hz.pv_int
    subst hy'
    subst hz'
    exact⟨_,ext,h1,fun _=>(q0.one_s (.own _ _)).sl' (.own _ _)⟩
 |false=>
  rw[hr,if_neg (by decide)]at h2
  cases h2 with
  |vals q=>
   cases q with
   |cons q0 q=>
    obtain⟨y,z,rfl,hy,hz⟩:=l2_2 q
    have hy':=hy.pv_int
    have hz':=hz.pv_int
    subst hy'
    subst hz'
    exact⟨_,ext,h1,fun q=>by cases q⟩
open Classical in
theorem stands169(hI:HasIns o) {S:Spc} {gs:List Pg} {c:Cur} (O:SpcOk S) (hs:S.Sound) (G:SpcG S gs) (C:c.ok) :
  Ct cx o (.fn 169 [.ptr 0 0,.p c.V]) [.cells 148 (S.ws.map .p)] (fun e h1=>e=(if standsP S gs c then .ret (.tup [])else .pan (.p (failC 6)))∧∃ ext,h1=.cells 148 (S.ws.map .p)::ext):=by
 refine ct169 (ho _ _ _ (by decide) (by decide)) rfl ?_
 have hbox:∀ hh:List Ob,boxW hh 32 (.p c.V)=.wn (.ptr hh.length 0) (.cells 32 (c.cs.map .p)):=fun hh=>rfl
 have dr:∀ {hh:List Ob},hget hh 1=.cells 32 (c.cs.map .p)→load? cx hh 3 (.ptr 1 0)=some (.p (.int .i64 c.t.rt)):=fun q=>load_one a3 q rfl
 have dp:∀ {hh:List Ob},hget hh 1=.cells 32 (c.cs.map .p)→load? cx hh 30 (.ptr 1 20)=some (.p c.pp):=fun q=>load_one a30 q rfl
 have dk:∀ {hh:List Ob},hget hh 1=.cells 32 (c.cs.map .p)→load? cx hh 9 (.ptr 1 19)=some (.p (.str c.ky)):=fun q=>load_one a9 q rfl
 have dS:∀ {hh:List Ob},hget hh 0=.cells 148 (S.ws.map .p)→load? cx hh 25 (.ptr 0 0)=some (.p S.v):=fun q=>(load_part a25 s25 q (by show 0+6≤7;omega)).trans rfl
 have hlen:∀ hh:List Ob,lenW cx hh 30 (.p c.pp)=_:=fun hh=>stp_len C.hp hh
 have r0:=dr (hh:=[.cells 148 (S.ws.map .p),.cells 32 (c.cs.map .p)]) rfl
 have p0:=dp (hh:=[.cells 148 (S.ws.map .p),.cells 32 (c.cs.map .p)]) rfl
 simp only[sc169r0,sc169r1,sc169r2,sc169r3,sc169r4,sc169r5,sc169d5_x,sc169r6,sc169r7,sc169r8,sc169d8_x,sc169r9,sc169r11,sc169r12,sc169,↓rwS,↓rwX,rwZ,rwT,rwG,Nat.reduceEqDiff,Nat.reduceAdd,reduceCtorEq,Nat.reduceLT,hbox,List.cons_append,List.nil_append,List.length_cons,List.length_nil,cu_f0,cu_f3,tr_f0,r0,p0,hlen]
 have hln:=C.ln
 refine xC_loop (fun m t h' d r => ∃ i : Nat, m = c.l.length - i ∧ i ≤ c.l.length ∧ (∀ k, k < i → stpOk S gs c k) ∧ hget h' 0 = .cells 148 (S.ws.map .p) ∧ hget h' 1 = .cells 32 (c.cs.map .p) ∧ d = [] ∧ r = none ∧
  t.get 0=.ptr 0 0∧t.get 3=.ptr 1 0∧t.get 4=.p (.int .i64 (nxt gs c i).1)∧t.get 5=.p (.str (nxt gs c i).2)∧t.get 15=.p c.pp∧t.get 16=.p (.int .i64 (c.l.length:Int))∧t.get 17=.p (.int .i64 (i:Int))) c.l.length ?_ ?_
 ·refine⟨0,rfl,by omega,fun k hk=>by omega,rfl,rfl,rfl,rfl,?_⟩
  simp only[↓rwA,rwB,rwG,Nat.reduceEqDiff,Nat.reduceAdd,reduceCtorEq,Nat.reduceLT,true_and]
  first|trivial|exact⟨rfl,rfl⟩|rfl
 ·rintro m t h' d r ⟨i,rfl,hi,hok,y0,y1,rfl,rfl,t0,t3,t4,t5,t15,t16,t17⟩
  by_cases hlt:(i:Int)<(c.l.length:Int)
  ·have hil:i<c.l.length:=by omega
   have sa:=stp_at C.hp hil
   generalize hs':c.l.getD i Stp.z=s at sa
   have w1:=one63 (i:=i) (by omega)
   have wl:IntKind.wrap .i64 ((c.l.length:Int)-1)=(c.l.length:Int)-1:=wrap64_id (by omega) (by omega)
   have wl2:IntKind.wrap .i64 ((c.l.length:Int)-1-(i:Int))=(c.l.length:Int)-1-(i:Int):=wrap64_id (by omega) (by omega)
   obtain⟨v,ext,p1,pS⟩:=node_call ho hI O hs G s.no (h'++[.cells 93 (s.cs.map .p)])
   have l0:=hget_cells_lt y0
   have l1:=hget_cells_lt y1
   have z0:hget (h'++[.cells 93 (s.cs.map .p)]) 0=.cells 148 (S.ws.map .p):=(hget_appL _ _ l0).trans y0
   have dS1:=dS z0
   have e0:load? cx (h'++[.cells 93 (s.cs.map .p)]) 3 (.ptr h'.length 0)=some (.p (.int .i64 s.no)):=load_one a3 (hget_end _ _) rfl
   have n0:hget ((h'++[.cells 93 (s.cs.map .p)])++ext) 0=.cells 148 (S.ws.map .p):=by rw[hget_appL _ _ (by rw[List.length_append];omega)];exact z0
   have n1:hget ((h'++[.cells 93 (s.cs.map .p)])++ext) 1=.cells 32 (c.cs.map .p):=by rw[hget_appL _ _ (by rw[List.length_append];omega),hget_appL _ _ l1];exact y1
   have n2:hget ((h'++[.cells 93 (s.cs.map .p)])++ext) h'.length=.cells 93 (s.cs.map .p):=by rw[hget_appL _ _ (by simp),hget_end]
   generalize hM:(h'++[.cells 93 (s.cs.map .p)])++ext=M at *
   have f0:load? cx M 3 (.ptr h'.length 0)=some (.p (.int .i64 s.no)):=load_one a3 n2 rfl
   have f1:load? cx M 3 (.ptr h'.length 1)=some (.p (.int .i64 s.ix)):=load_one a3 n2 rfl
   have f2:=dp n1
   obtain⟨xt,hxt⟩:=hd_of n0
   have hst:standsP S gs c→stpOk S gs c i:=fun q=>q.2.1 i hil
   unfold stpOk at hst
   rw[hs']at hst
   cases hr:rdB S gs s.no (lvAt gs s.no)with
   |false=>
    rw[hr]at p1
    simp only[Bool.false_eq_true,if_false]at p1
    have hns:¬standsP S gs c:=fun q=>by have:=(hst q).2.1;rw[hr]at this;cases this
    have d8:decide ((8:Int)=0)=false:=rfl
    have d6:decide ((6:Int)=0)=false:=rfl
    clear hst hr
    simp only[sc169r0,sc169r1,sc169r2,sc169r3,sc169r4,sc169r5,sc169d5_x,sc169r6,sc169r7,sc169r8,sc169d8_x,sc169r9,sc169l10,sc169r11,sc169r12,sc169,↓rwS,↓rwX,rwZ,rwT,rwG,Nat.reduceEqDiff,Nat.reduceAdd,reduceCtorEq,Nat.reduceLT,↓rwC,rwD,rwI,Nat.reduceSub,Nat.reduceLeDiff,LW_bt,LW_bf,t0,t3,t4,t5,t15,t16,t17,hlt,decide_true,sa,stp_ld,z93,z93c,stp_st,hset_end,wa_f0,stp_f0,stp_f1,dS1,e0,callW_ret ext200 p1,d8,d6,Bool.not_false,call69 ho,hns]
    exact⟨xt,hxt⟩
   |true=>
    rw[hr]at p1
    simp only[if_true]at p1
    have hS:=pS hr
    have hr':=hr
    have lenv:lenW cx M 59 v=.w (.p (.int .i64 ((gs.getD s.no.toNat Pg.z).es.length:Int))):=by rw[hS.len u59,List.length_map]
    have d0:decide ((0:Int)=0)=true:=rfl
    have d6:decide ((6:Int)=0)=false:=rfl
    clear hr pS
    by_cases j1:s.no=(nxt gs c i).1
    case neg=>
     have hns:¬standsP S gs c:=fun q=>j1 (hst q).1
     have a1':decide (s.no=(nxt gs c i).1)=false:=decide_eq_false j1
     clear hst j1
     simp only[sc169r0,sc169r1,sc169r2,sc169r3,sc169r4,sc169r5,sc169d5_x,sc169r6,sc169r7,sc169r8,sc169d8_x,sc169r9,sc169l10,sc169r11,sc169r12,sc169,↓rwS,↓rwX,rwZ,rwT,rwG,Nat.reduceEqDiff,Nat.reduceAdd,reduceCtorEq,Nat.reduceLT,↓rwC,rwD,rwI,Nat.reduceSub,Nat.reduceLeDiff,LW_bt,LW_bf,t0,t3,t4,t5,t15,t16,t17,hlt,decide_true,decide_false,sa,stp_ld,z93,z93c,stp_st,hset_end,wa_f0,stp_f0,stp_f1,cu_f3,cu_f2,dS1,e0,callW_ret ext200 p1,d6,d0,Bool.not_false,Bool.not_true,call69 ho,hlen,f0,f1,f2,lenv,wl,wl2,a1',hns]
     exact⟨xt,hxt⟩
    have a1':decide (s.no=(nxt gs c i).1)=true:=decide_eq_true j1
    by_cases j2:lvAt gs s.no=(c.l.length:Int)-1-(i:Int)
    case neg=>
     have hns:¬standsP S gs c:=fun q=>j2 (hst q).2.2.1
     have a2':decide (lvAt gs s.no=(c.l.length:Int)-1-(i:Int))=false:=decide_eq_false j2
     clear hst j1 j2
     simp only[sc169r0,sc169r1,sc169r2,sc169r3,sc169r4,sc169r5,sc169d5_x,sc169r6,sc169r7,sc169r8,sc169d8_x,sc169r9,sc169l10,sc169r11,sc169r12,sc169,↓rwS,↓rwX,rwZ,rwT,rwG,Nat.reduceEqDiff,Nat.reduceAdd,reduceCtorEq,Nat.reduceLT,↓rwC,rwD,rwI,Nat.reduceSub,Nat.reduceLeDiff,LW_bt,LW_bf,t0,t3,t4,t5,t15,t16,t17,hlt,decide_true,decide_false,sa,stp_ld,z93,z93c,stp_st,hset_end,wa_f0,stp_f0,stp_f1,cu_f3,cu_f2,dS1,e0,callW_ret ext200 p1,d6,d0,Bool.not_false,Bool.not_true,call69 ho,hlen,f0,f1,f2,lenv,wl,wl2,a1',a2',hns]
     exact⟨xt,hxt⟩
    have a2':decide (lvAt gs s.no=(c.l.length:Int)-1-(i:Int))=true:=decide_eq_true j2
    by_cases j3:s.ix<0
    case pos=>
     have hns:¬standsP S gs c:=fun q=>by have:=(hst q).2.2.2.1;omega
     have a3':decide (s.ix<0)=true:=decide_eq_true j3
     clear hst j1 j2 j3
     simp only[sc169r0,sc169r1,sc169r2,sc169r3,sc169r4,sc169r5,sc169d5_x,sc169r6,sc169r7,sc169r8,sc169d8_x,sc169r9,sc169l10,sc169r11,sc169r12,sc169,↓rwS,↓rwX,rwZ,rwT,rwG,Nat.reduceEqDiff,Nat.reduceAdd,reduceCtorEq,Nat.reduceLT,↓rwC,rwD,rwI,Nat.reduceSub,Nat.reduceLeDiff,LW_bt,LW_bf,t0,t3,t4,t5,t15,t16,t17,hlt,decide_true,decide_false,sa,stp_ld,z93,z93c,stp_st,hset_end,wa_f0,stp_f0,stp_f1,cu_f3,cu_f2,dS1,e0,callW_ret ext200 p1,d6,d0,Bool.not_false,Bool.not_true,call69 ho,hlen,f0,f1,f2,lenv,wl,wl2,a1',a2',a3',hns]
     exact⟨xt,hxt⟩
    have a3':decide (s.ix<0)=false:=decide_eq_false j3
    by_cases j4:((gs.getD s.no.toNat Pg.z).es.length:Int)≤s.ix
    case pos=>
     have hns:¬standsP S gs c:=fun q=>by have:=(hst q).2.2.2.2;omega
     have a4':decide (((gs.getD s.no.toNat Pg.z).es.length:Int)≤s.ix)=true:=decide_eq_true j4
     clear hst j1 j2 j3 j4
     simp only[sc169r0,sc169r1,sc169r2,sc169r3,sc169r4,sc169r5,sc169d5_x,sc169r6,sc169r7,sc169r8,sc169d8_x,sc169r9,sc169l10,sc169r11,sc169r12,sc169,↓rwS,↓rwX,rwZ,rwT,rwG,Nat.reduceEqDiff,Nat.reduceAdd,reduceCtorEq,Nat.reduceLT,↓rwC,rwD,rwI,Nat.reduceSub,Nat.reduceLeDiff,LW_bt,LW_bf,t0,t3,t4,t5,t15,t16,t17,hlt,decide_true,decide_false,sa,stp_ld,z93,z93c,stp_st,hset_end,wa_f0,stp_f0,stp_f1,cu_f3,cu_f2,dS1,e0,callW_ret ext200 p1,d6,d0,Bool.not_false,Bool.not_true,call69 ho,hlen,f0,f1,f2,lenv,wl,wl2,a1',a2',a3',a4',hns]
     exact⟨xt,hxt⟩
    have a4':decide (((gs.getD s.no.toNat Pg.z).es.length:Int)≤s.ix)=false:=decide_eq_false j4
    have hk:s.ix.toNat<(gs.getD s.no.toNat Pg.z).es.length:=by omega
    have hkm:s.ix.toNat<((gs.getD s.no.toNat Pg.z).es.map Ent.V).length:=by rw[List.length_map];exact hk
    have hge:((gs.getD s.no.toNat Pg.z).es.map Ent.V).getD s.ix.toNat .nilp=((gs.getD s.no.toNat Pg.z).es.getD s.ix.toNat Ent.z).V:=ent_d hk
    have ia:indexAddr? cx 59 v (.p (.int .i64 s.ix))=some (rdS v s.ix.toNat):=hS.at (sz:=21) u59 s64 (by omega) (by rw[List.length_map];omega)
    obtain⟨fa,ga,gl⟩:=sl_fld hS hkm f64_4 s3 a3 (by rw[hge];rfl) (w:=.int .i64 ((gs.getD s.no.toNat Pg.z).es.getD s.ix.toNat Ent.z).ch) (fun cs q=>by cases q)
    obtain⟨fb,gb,glb⟩:=sl_fld hS hkm f64_0 s9 a9 (by rw[hge];rfl) (w:=.str ((gs.getD s.no.toNat Pg.z).es.getD s.ix.toNat Ent.z).k) (fun cs q=>by cases q)
    have nx:nxt gs c (i+1)=(((gs.getD s.no.toNat Pg.z).es.getD s.ix.toNat Ent.z).ch,((gs.getD s.no.toNat Pg.z).es.getD s.ix.toNat Ent.z).k):=by
     rw[← hs'];rfl
    have hi1:stpOk S gs c i:=by
     unfold stpOk
     rw[hs']
     exact⟨j1,hr',j2,by omega,by omega⟩
    simp only[sc169r0,sc169r1,sc169r2,sc169r3,sc169r4,sc169r5,sc169d5_x,sc169r6,sc169r7,sc169r8,sc169d8_x,sc169r9,sc169l10,sc169r11,sc169r12,sc169,↓rwS,↓rwX,rwZ,rwT,rwG,Nat.reduceEqDiff,Nat.reduceAdd,reduceCtorEq,Nat.reduceLT,↓rwC,rwD,rwI,Nat.reduceSub,Nat.reduceLeDiff,LW_bt,LW_bf,t0,t3,t4,t5,t15,t16,t17,hlt,decide_true,decide_false,sa,stp_ld,z93,z93c,stp_st,hset_end,wa_f0,stp_f0,stp_f1,cu_f3,cu_f2,dS1,e0,callW_ret ext200 p1,d6,d0,Bool.not_false,Bool.not_true,call69 ho,hlen,f0,f1,f2,lenv,wl,wl2,a1',a2',a3',a4',ia,ga,gl,gb,glb,w1,true_and]
    refine⟨_,?_,i+1,rfl,by omega,fun k hk=>?_,n0,n1,?_⟩
    ·omega
    ·by_cases q:k=i
     ·rw[q];exact hi1
     ·exact hok k (by omega)
    ·rw[nx]
     first|exact⟨rfl,rfl⟩|trivial|exact⟨rfl,rfl,rfl⟩
  ·have hin:i=c.l.length:=by omega
   have g1:=dp y1
   have g2:=dk y1
   obtain⟨xt,hxt⟩:=hd_of y0
   have d6:decide ((6:Int)=0)=false:=rfl
   by_cases hn:(c.l.length:Int)=0
   ·have hns:¬standsP S gs c:=fun q=>q.1 (List.eq_nil_of_length_eq_zero (by omega))
    have hn':decide ((c.l.length:Int)=0)=true:=decide_eq_true hn
    clear hn
    simp only[sc169r0,sc169r1,sc169r2,sc169r3,sc169r4,sc169r5,sc169d5_x,sc169r6,sc169r7,sc169r8,sc169d8_x,sc169r9,sc169l10,sc169r11,sc169r12,sc169,↓rwS,↓rwX,rwZ,rwT,rwG,Nat.reduceEqDiff,Nat.reduceAdd,reduceCtorEq,Nat.reduceLT,t0,t3,t5,t15,t16,t17,hlt,decide_false,cu_f3,cu_f2,g1,g2,hlen,hn',call69 ho,d6,hns]
    exact⟨trivial,xt,hxt⟩
   have hn':decide ((c.l.length:Int)=0)=false:=decide_eq_false hn
   by_cases hk:(nxt gs c i).2=c.ky
   ·have hns:standsP S gs c:=⟨fun q=>hn (by rw[q];rfl),fun k q=>hok k (by omega),by rw[← hin];exact hk⟩
    have hk':decide ((nxt gs c i).2=c.ky)=true:=decide_eq_true hk
    clear hk
    simp only[sc169r0,sc169r1,sc169r2,sc169r3,sc169r4,sc169r5,sc169d5_x,sc169r6,sc169r7,sc169r8,sc169d8_x,sc169r9,sc169l10,sc169r11,sc169r12,sc169,↓rwS,↓rwX,rwZ,rwT,rwG,Nat.reduceEqDiff,Nat.reduceAdd,reduceCtorEq,Nat.reduceLT,t0,t3,t5,t15,t16,t17,hlt,decide_false,cu_f3,cu_f2,g1,g2,hlen,hn',hk',Bool.not_true,call69 ho,d6,hns]
    exact⟨trivial,xt,hxt⟩
   ·have hns:¬standsP S gs c:=fun q=>hk (by rw[hin];exact q.2.2)
    have hk':decide ((nxt gs c i).2=c.ky)=false:=decide_eq_false hk
    clear hk
    simp only[sc169r0,sc169r1,sc169r2,sc169r3,sc169r4,sc169r5,sc169d5_x,sc169r6,sc169r7,sc169r8,sc169d8_x,sc169r9,sc169l10,sc169r11,sc169r12,sc169,↓rwS,↓rwX,rwZ,rwT,rwG,Nat.reduceEqDiff,Nat.reduceAdd,reduceCtorEq,Nat.reduceLT,t0,t3,t5,t15,t16,t17,hlt,decide_false,cu_f3,cu_f2,g1,g2,hlen,hn',hk',Bool.not_false,call69 ho,d6,hns]
    exact⟨trivial,xt,hxt⟩
end
def curP(S:Spc) (gs:List Pg) (c:Cur):Prop:=
 c.t.plB=true∧(if c.wh=1 then c.t ≠ Tre.z∧standsP S gs c else(c.wh=0∨c.wh=2)∧c.ky=[]∧c.l=[])
open Classical in
noncomputable def curE(S:Spc) (gs:List Pg) (c:Cur):Int:=if ¬S.Sound then 2 else if curP S gs c then 0 else 6
theorem b148(S:Spc):build? cx 148 [(0,.p S.v)]=some (.p (.agg S.ws)):=by
 show build? cx 148 [(0,.p (.agg [S.p0,S.p1,S.p2,S.p3,.int .i64 S.ver,.int .i64 S.tr]))]=some (.p (.agg [S.p0,S.p1,S.p2,S.p3,.int .i64 S.ver,.int .i64 S.tr,.nils]))
 kernel_rfl
section
variable {o:Orc} (ho:FreeT o)
include ho
open Classical in
theorem check82(hI:HasIns o) {S:Spc} {gs:List Pg} {c:Cur} (O:SpcOk S) (hs:S.Sound) (G:SpcG S gs) (C:c.ok) :
  Ct cx o (.fn 82 [.ptr 0 0,.p c.V]) [.cells 148 (S.ws.map .p)] (fun e h1=>e=(if curP S gs c then .ret (.tup [])else .pan (.p (failC 6)))∧∃ ext,h1=.cells 148 (S.ws.map .p)::ext):=by
 refine ct82 (ho _ _ _ (by decide) (by decide)) rfl ?_
 have hbox:∀ hh:List Ob,boxW hh 32 (.p c.V)=.wn (.ptr hh.length 0) (.cells 32 (c.cs.map .p)):=fun hh=>rfl
 have d0:load? cx [.cells 148 (S.ws.map .p),.cells 32 (c.cs.map .p)] 29 (.ptr 1 0)=some (.p c.t.V):=(load_part a29 s29 rfl (by show 0+18≤21;omega)).trans rfl
 have d1:load? cx [.cells 148 (S.ws.map .p),.cells 32 (c.cs.map .p)] 3 (.ptr 1 18)=some (.p (.int .i64 c.wh)):=load_one a3 rfl rfl
 have d2:load? cx [.cells 148 (S.ws.map .p),.cells 32 (c.cs.map .p)] 9 (.ptr 1 19)=some (.p (.str c.ky)):=load_one a9 rfl rfl
 have d3:load? cx [.cells 148 (S.ws.map .p),.cells 32 (c.cs.map .p)] 30 (.ptr 1 20)=some (.p c.pp):=load_one a30 rfl rfl
 have dw:load? cx [.cells 148 (S.ws.map .p),.cells 32 (c.cs.map .p)] 32 (.ptr 1 0)=some (.p c.V):=(load_whole a32 s32 rfl rfl).trans rfl
 have hlen:∀ hh:List Ob,lenW cx hh 30 (.p c.pp)=_:=fun hh=>stp_len C.hp hh
 have hst:=cs_cell (h:=[.cells 148 (S.ws.map .p),.cells 32 (c.cs.map .p)]) (i:=0) (q:=c.V) (en:=if standsP S gs c then .ret (.tup [])else .pan (.p (failC 6))) rfl (by split;exact .inl rfl;exact .inr ⟨_,rfl⟩) (stands169 ho hI O hs G C)
 have hset0:hset [Ob.cells 148 (S.ws.map .p),.cells 32 (c.cs.map .p)] 0 (.cells 148 (S.ws.map .p))=[.cells 148 (S.ws.map .p),.cells 32 (c.cs.map .p)]:=rfl
 rw[hset0]at hst
 have d6:decide ((6:Int)=0)=false:=rfl
 have hll:(c.l=[])↔¬ (0<(c.l.length:Int)):=by cases c.l<;>simp<;>omega
 by_cases h1:standsP S gs c
 ·rw[if_pos h1]at hst
  simp only[sc82r0,sc82r1,sc82r2,sc82r3,sc82r4,sc82r5,sc82r6,sc82,↓rwS,↓rwX,rwZ,rwT,rwG,Nat.reduceEqDiff,Nat.reduceAdd,reduceCtorEq,Nat.reduceLT,hbox,List.cons_append,List.nil_append,List.length_cons,List.length_nil,cu_f0,cu_f1,cu_f2,cu_f3,tr_f0,d0,d1,d2,d3,dw,hlen,b29,neq_tre,call149 ho,call69 ho,d6,callW_ret ext169 hst]
  repeat' (refine spl (fun hb=>?_) (fun hb=>?_)<;>try simp only[sc82r0,sc82r1,sc82r2,sc82r3,sc82r4,sc82r5,sc82r6,sc82,↓rwS,↓rwX,rwZ,rwT,rwG,Nat.reduceEqDiff,Nat.reduceAdd,reduceCtorEq,Nat.reduceLT,hbox,List.cons_append,List.nil_append,List.length_cons,List.length_nil,cu_f0,cu_f1,cu_f2,cu_f3,tr_f0,d0,d1,d2,d3,dw,hlen,b29,neq_tre,call149 ho,call69 ho,d6,callW_ret ext169 hst, *])
  all_goals first
   | (refine⟨(if_neg ?_).symm,_,rfl⟩;unfold curP;grind)
   | (refine⟨(if_pos ?_).symm,_,rfl⟩;unfold curP;grind)
 ·rw[if_neg h1]at hst
  simp only[sc82r0,sc82r1,sc82r2,sc82r3,sc82r4,sc82r5,sc82r6,sc82,↓rwS,↓rwX,rwZ,rwT,rwG,Nat.reduceEqDiff,Nat.reduceAdd,reduceCtorEq,Nat.reduceLT,hbox,List.cons_append,List.nil_append,List.length_cons,List.length_nil,cu_f0,cu_f1,cu_f2,cu_f3,tr_f0,d0,d1,d2,d3,dw,hlen,b29,neq_tre,call149 ho,call69 ho,d6,callW_pan ext169 hst]
  repeat' (refine spl (fun hb=>?_) (fun hb=>?_)<;>try simp only[sc82r0,sc82r1,sc82r2,sc82r3,sc82r4,sc82r5,sc82r6,sc82,↓rwS,↓rwX,rwZ,rwT,rwG,Nat.reduceEqDiff,Nat.reduceAdd,reduceCtorEq,Nat.reduceLT,hbox,List.cons_append,List.nil_append,List.length_cons,List.length_nil,cu_f0,cu_f1,cu_f2,cu_f3,tr_f0,d0,d1,d2,d3,dw,hlen,b29,neq_tre,call149 ho,call69 ho,d6,callW_pan ext169 hst, *])
  all_goals first
   | (refine⟨(if_neg ?_).symm,_,rfl⟩;unfold curP;grind)
   | (refine⟨(if_pos ?_).symm,_,rfl⟩;unfold curP;grind)
open Classical in
theorem use39(hI:HasIns o) {S:Spc} {gs:List Pg} {c:Cur} (O:SpcOk S) (G:SpcG S gs) (C:c.ok) :
  Ct cx o (.fn 39 [.p S.v,.p c.V]) [] (fun e h1=>CoE h1 e (if curE S gs c=0 then .ptr 148 (S.ws.map .pv)else .pan (failC (curE S gs c)))):=by
 refine ct39 (ho _ _ _ (by decide) (by decide)) rfl ?_
 have hbox:∀ hh:List Ob,boxW hh 25 (.p S.v)=.wn (.ptr hh.length 0) (.cells 25 S.cells):=fun hh=>rfl
 have hbox2:∀ hh:List Ob,boxW hh 32 (.p c.V)=.wn (.ptr hh.length 0) (.cells 32 (c.cs.map .p)):=fun hh=>rfl
 have hbox3:∀ hh:List Ob,boxW hh 148 (.p (.agg S.ws))=.wn (.ptr hh.length 0) (.cells 148 (S.ws.map .p)):=fun hh=>rfl
 have ldS:∀ l:List Ob,load? cx (.cells 25 S.cells::l) 25 (.ptr 0 0)=some (.p S.v):=fun l=>(load_whole a25 s25 rfl rfl).trans rfl
 have dw:∀ l:List Ob,load? cx (.cells 25 S.cells :: .cells 32 (c.cs.map .p)::l) 32 (.ptr 1 0)=some (.p c.V):=fun l=>(load_whole a32 s32 rfl rfl).trans rfl
 by_cases hs:S.Sound
 case neg=>
  have d2:decide ((2:Int)=0)=false:=rfl
  have hE:curE S gs c=2:=by unfold curE;exact if_pos hs
  rw[hE,if_neg (by decide)]
  simp only[sc39r0,sc39r1,sc39r2,sc39r3,sc39r4,sc39,↓rwS,↓rwX,rwZ,rwT,rwG,Nat.reduceEqDiff,Nat.reduceAdd,reduceCtorEq,Nat.reduceLT,hbox,hbox2,List.cons_append,List.nil_append,List.length_cons,List.length_nil,ldS,call18 ho O,Spc.soundE_f hs,call69 ho,d2]
  exact .pan _
 have hst:=cs_cell (h:=[.cells 25 S.cells,.cells 32 (c.cs.map .p),.cells 148 (S.ws.map .p)]) (i:=2) (q:=c.V) (en:=if curP S gs c then .ret (.tup [])else .pan (.p (failC 6))) rfl (by split;exact .inl rfl;exact .inr ⟨_,rfl⟩) (check82 ho hI O hs G C)
 have hset0:hset [Ob.cells 25 S.cells,.cells 32 (c.cs.map .p),.cells 148 (S.ws.map .p)] 2 (.cells 148 (S.ws.map .p))=[.cells 25 S.cells,.cells 32 (c.cs.map .p),.cells 148 (S.ws.map .p)]:=rfl
 rw[hset0]at hst
 have d0:decide ((0:Int)=0)=true:=rfl
 by_cases h1:curP S gs c
 ·rw[if_pos h1]at hst
  have hE:curE S gs c=0:=by unfold curE;rw[if_neg (fun q=>q hs)];exact if_pos h1
  rw[hE,if_pos rfl]
  simp only[sc39r0,sc39r1,sc39r2,sc39r3,sc39r4,sc39,↓rwS,↓rwX,rwZ,rwT,rwG,Nat.reduceEqDiff,Nat.reduceAdd,reduceCtorEq,Nat.reduceLT,hbox,hbox2,hbox3,List.cons_append,List.nil_append,List.length_cons,List.length_nil,ldS,dw,call18 ho O,Spc.soundE_t hs,call69 ho,d0,decide_true,b148,callW_ret ext82 hst]
  exact .ptr (j:=2) (cs:=S.ws.map .p) rfl (.cons (.p _) (.cons (.p _) (.cons (.p _) (.cons (.p _) (.cons (.p _) (.cons (.p _) (.cons (.p _) .nil)))))))
 ·rw[if_neg h1]at hst
  have hE:curE S gs c=6:=by unfold curE;rw[if_neg (fun q=>q hs)];exact if_neg h1
  rw[hE,if_neg (by decide)]
  simp only[sc39r0,sc39r1,sc39r2,sc39r3,sc39r4,sc39,↓rwS,↓rwX,rwZ,rwT,rwG,Nat.reduceEqDiff,Nat.reduceAdd,reduceCtorEq,Nat.reduceLT,hbox,hbox2,hbox3,List.cons_append,List.nil_append,List.length_cons,List.length_nil,ldS,dw,call18 ho O,Spc.soundE_t hs,call69 ho,d0,decide_true,b148,callW_pan ext82 hst]
  exact .pan _
end
theorem endDF_ret{o:Orc} {rs g P t h j} {r:Option RM} (h1:List Ob) (vs:List AV) (hd:DefRunF 38 cx o g j h .ret h1 .ret) (hr:results? cx h1 t rs=some vs) (hP:P (.ret (vals vs)) h1) (hn:r=none):endDF 38 cx o rs g P .ret t h [.fn g [.ptr j 0,.p (.fn 38)]] r:=⟨hn,j,rfl,h1,hd,vs,hr,hP⟩
theorem endDF_pan{o:Orc} {rs g P t h j v} {r:Option RM} (h1:List Ob) (vs:List AV) (hd:DefRunF 38 cx o g j h (.pan v false) h1 (.pan v true)) (hr:results? cx h1 t rs=some vs) (hP:P (.ret (vals vs)) h1) (hn:r=none):endDF 38 cx o rs g P (.pan v) t h [.fn g [.ptr j 0,.p (.fn 38)]] r:=⟨hn,j,rfl,h1,hd,vs,hr,hP⟩
section
variable {o:Orc} (ho:FreeT o)
include ho
theorem ct8D{args h P} (h1:o 8 args h=none) (ha:Nat.ble args.length 8=true) (hw:xC cx o none sc8 (endDF 38 cx o [.cell 4 36] 37 P) (argT args 0 .lf) h [] none):Ct cx o (.fn 8 args) h P:=
 ct_defF 37 fn8 sc8_ok rfl rfl h1 ha sc8_dst hw
theorem check8(hI:HasIns o) {S:Spc} {gs:List Pg} {c:Cur} (O:SpcOk S) (G:SpcG S gs) (C:c.ok) :
  Ct cx o (.fn 8 [.p S.v,.p c.V]) [] (fun e h1=>e=.ret (.p (.int .i64 (curE S gs c)))):=by
 refine ct8D ho (ho _ _ _ (by decide) (by decide)) rfl ?_
 have hbox:∀ hh:List Ob,boxW hh 25 (.p S.v)=.wn (.ptr hh.length 0) (.cells 25 S.cells):=fun hh=>rfl
 have hbox2:∀ hh:List Ob,boxW hh 32 (.p c.V)=.wn (.ptr hh.length 0) (.cells 32 (c.cs.map .p)):=fun hh=>rfl
 have z36c:(PV.int .i64 0).cells.map AV.p=[.p (.int .i64 0)]:=rfl
 have ldS:∀ l:List Ob,load? cx (.cells 25 S.cells::l) 25 (.ptr 0 0)=some (.p S.v):=fun l=>(load_whole a25 s25 rfl rfl).trans rfl
 have dw:∀ l:List Ob,load? cx (.cells 25 S.cells :: .cells 32 (c.cs.map .p)::l) 32 (.ptr 1 0)=some (.p c.V):=fun l=>(load_whole a32 s32 rfl rfl).trans rfl
 obtain⟨e,ext,p1,p2⟩:=cs_valP (h:=[.cells 25 S.cells,.cells 32 (c.cs.map .p),.cells 36 [.p (.int .i64 0)]]) (ps:=[S.v,c.V]) (use39 ho hI O G C)
 have g2:hget ([Ob.cells 25 S.cells,.cells 32 (c.cs.map .p),.cells 36 [.p (.int .i64 0)]]++ext) 2=.cells 36 [.p (.int .i64 0)]:=rfl
 generalize hM:[Ob.cells 25 S.cells,.cells 32 (c.cs.map .p),.cells 36 [.p (.int .i64 0)]]++ext=M at *
 have l2:=hget_cells_lt g2
 have p1:CS cx o (.fn 39 [.p S.v,.p c.V]) [.cells 25 S.cells,.cells 32 (c.cs.map .p),.cells 36 [.p (.int .i64 0)]] e M:=p1
 by_cases h1:curE S gs c=0
 ·rw[if_pos h1]at p2
  cases p2 with
  |ptr q1 q2=>
   have st:=store_one (c:=cx) (ty:=36) (off:=0) (v:=.int .i64 0) (by kernel_rfl) g2 rfl (by decide)
   simp only[List.set_cons_zero]at st
   have y4:hget (hset M 2 (.cells 36 [.p (.int .i64 0)])) 2=.cells 36 [.p (.int .i64 0)]:=by rw[hget_hset _ _ _ _ l2,if_pos rfl]
   simp only[sc8r0,sc8r1,sc8r2,sc8r3,sc8,↓rwS,↓rwX,rwZ,rwT,rwG,Nat.reduceEqDiff,Nat.reduceAdd,reduceCtorEq,Nat.reduceLT,hbox,hbox2,z36,z36c,List.cons_append,List.nil_append,List.length_cons,List.length_nil,ldS,dw,callW_ret ext39 p1,st]
   refine endDF_ret _ [.p (.int .i64 0)] (def37_ret (n:=0) y4) ?_ ?_ rfl
   ·have e2:load? cx (hset (hset M 2 (.cells 36 [.p (.int .i64 0)])) 2 (.cells 36 [.p (.int .i64 0)])) 36 (.ptr 2 0)=some (.p (.int .i64 0)):=load_one a36 (by rw[hget_hset _ _ _ _ (hget_cells_lt y4),if_pos rfl]) rfl
    simp only[↓rwA,rwB,rwG,Nat.reduceEqDiff,Nat.reduceAdd,reduceCtorEq,Nat.reduceLT,e2]
   ·rw[h1];rfl
 ·rw[if_neg h1]at p2
  cases p2 with
  |pan=>
   simp only[sc8r0,sc8r1,sc8r2,sc8r3,sc8,↓rwS,↓rwX,rwZ,rwT,rwG,Nat.reduceEqDiff,Nat.reduceAdd,reduceCtorEq,Nat.reduceLT,hbox,hbox2,z36,z36c,List.cons_append,List.nil_append,List.length_cons,List.length_nil,ldS,dw,callW_pan ext39 p1]
   refine endDF_pan _ [.p (.int .i64 (curE S gs c))] (def37_pan ho (n:=0) g2) ?_ ?_ rfl
   ·have e2:load? cx (hset M 2 (.cells 36 [.p (.int .i64 (curE S gs c))])) 36 (.ptr 2 0)=some (.p (.int .i64 (curE S gs c))):=load_one a36 (by rw[hget_hset _ _ _ _ l2,if_pos rfl]) rfl
    simp only[↓rwA,rwB,rwG,Nat.reduceEqDiff,Nat.reduceAdd,reduceCtorEq,Nat.reduceLT,e2]
   ·rfl
end
end Go.Proofs

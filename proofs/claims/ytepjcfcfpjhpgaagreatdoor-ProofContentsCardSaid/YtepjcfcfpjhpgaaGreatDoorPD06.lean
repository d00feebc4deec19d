/- What is proved: the law ProofContents upon the interpreter ('law4'). Conditions: the examples (F17) come to true. -/
import Derived.Test.YtepjcfcfpjhpgaaGreatDoorPD05
set_option linter.all false
set_option maxRecDepth 100000
namespace Go.Proofs
open Go Go.Ai
def PaW(s:List UInt8) (l:Int) (xs:List Itm) (E:Int):Prop:=match paR s with
 |some (m,ys)=>E=0∧l=m∧xs=ys
 |none=>E=2∧l=0∧xs=[]
def Con3(h:List Ob) (Y:AV) (l:Int) (xs:List Itm) (E:Int):Prop:=∃ v cv,Y.cells?=some [.p (.int .i64 l),v,.p (.int .i64 E)]∧Co1 h v cv∧IsS 19 cv (xs.map Itm.V)
theorem cells_three{X a b c:AV} (H:X.cells?=some [a,b,c]):(∃ p q r,X=.p (.agg [p,q,r])∧a=.p p∧b=.p q∧c=.p r)∨X=.agg [a,b,c]:=by
 cases X with
 |p v=>
  left
  have H:some (v.cells.map AV.p)=some [a,b,c]:=H
  simp only[Option.some.injEq]at H
  cases v with
  |agg cs=>
   have H:cs.map AV.p=[a,b,c]:=H
   match cs,H with
   | [p,q,r],H=>
    simp at H
    exact⟨p,q,r,rfl,H.1.symm,H.2.1.symm,H.2.2.symm⟩
   | [],H=>simp at H
   | [_],H=>simp at H
   | [_,_],H=>simp at H
   |_::_::_::_::_,H=>simp at H
  |_=>simp [PV.cells]at H
 |agg cs=>
  right
  have H:some cs=some [a,b,c]:=H
  simp only[Option.some.injEq]at H
  rw[H]
 |un=>cases H
 |tup l=>cases H
 |_=>simp [AV.cells?]at H
theorem Con3.co{h Y l xs E} (H:Con3 h Y l xs E):∃ q,Co h Y q∧∀ h0 Y0,Co h0 Y0 q→Con3 h0 Y0 l xs E:=by
 obtain⟨v,cv,h0,h1,h2⟩:=H
 rcases cells_three h0 with⟨p,q,r,rfl,e1,rfl,e3⟩|rfl
 ·cases e1
  cases e3
  refine⟨.pv (.agg [.int .i64 l,q,.int .i64 E]),.one (.p _),fun h0 X0 r0=>?_⟩
  cases h1
  cases r0 with
  |one r1=>
   cases r1
   exact⟨.p q,.pv q,rfl,.p q,h2⟩
 ·refine⟨.agg [.pv (.int .i64 l),cv,.pv (.int .i64 E)],.agg (.cons (.p _) (.cons h1 (.cons (.p _) .nil))),fun h0 X0 r0=>?_⟩
  cases r0 with
  |one r1=>cases r1
  |agg r1=>
   obtain⟨a,b,c,rfl,ra,rb,rc⟩:=l2_3 r1
   cases co1_int ra
   cases co1_int rc
   exact⟨b,cv,rfl,rb,h2⟩
theorem co_int{h:List Ob} {v:AV} {k:IntKind} {n:Int} (H:Co h v (.pv (.int k n))):v=.p (.int k n):=by
 cases H with
 |one r=>exact co1_int r
section
variable {o:Orc} (ho:FreeT o)
include ho
theorem cs20{s:List UInt8} (hl:s.length<100000) (h:List Ob):∃ X l xs E ext,CS cx o (.fn 20 [.p (.str s)]) h (.ret (.tup [X,.p (.int .i64 E)])) (h++ext)∧ConC (h++ext) X l xs∧PaW s l xs E:=by
 obtain⟨e,h1,hrun,X,hP⟩:=parse20 ho hl
 have:∃ l xs E,e=.ret (.tup [X,.p (.int .i64 E)])∧ConC h1 X l xs∧PaW s l xs E:=by
  unfold PaW
  cases hp:paR s with
  |none=>rw[hp]at hP;exact⟨0,[],2,hP.1,hP.2,rfl,rfl,rfl⟩
  |some z=>obtain⟨m,ys⟩:=z;rw[hp]at hP;exact⟨m,ys,0,hP.1,hP.2,rfl,rfl,rfl⟩
 obtain⟨l,xs,E,rfl,hC,hW⟩:=this
 obtain⟨q,hq,hb⟩:=hC.co
 obtain⟨e',ext,h2,h3⟩:=cs_valP (c:=cx) (o:=o) (f:=20) (ps:=[.str s]) (h:=h) (qe:=.vals [q,.pv (.int .i64 E)]) ⟨_,h1,hrun,.vals (.cons hq (.cons (.one (.p _)) .nil))⟩
 cases h3 with
 |vals h3=>
  obtain⟨a,b,rfl,ra,rb⟩:=l2_2 h3
  cases co_int rb
  exact⟨a,l,xs,E,ext,h2,hb _ _ ra,hW⟩
theorem cs21{s:List UInt8} (hl:s.length<100000) (h:List Ob):∃ Y l xs E ext,CS cx o (.fn 21 [.p (.str s)]) h (.ret Y) (h++ext)∧Con3 (h++ext) Y l xs E∧PaW s l xs E:=by
 obtain⟨e,h1,hrun,X,l,xs,E,v,cv,rfl,hX,hv,hs,hW⟩:=parse21 ho hl
 have hC:Con3 h1 X l xs E:=⟨v,cv,hX,hv,hs⟩
 obtain⟨q,hq,hb⟩:=hC.co
 obtain⟨e',ext,h2,h3⟩:=cs_valP (c:=cx) (o:=o) (f:=21) (ps:=[.str s]) (h:=h) (qe:=.val q) ⟨_,h1,hrun,.val hq⟩
 obtain⟨a,rfl,ra⟩:=h3.val_inv
 exact⟨a,l,xs,E,ext,h2,hb _ _ ra,hW⟩
theorem cs19{M X l xs} (H:ConC M X l xs) (hok:∀ x∈xs,x.ok) (hn:xs.length<20000) (hk:∀ x∈xs,x.key.length<1000):CS cx o (.fn 19 [X]) M (.ret (.p (.agg [.str (byS l xs),.int .i64 (byE l xs)]))) M:=
 con_cs H rfl fun h0 X0 H0=>bytes19 ho H0 hok hn hk
theorem cs22{h:List Ob} {X Y:AV} {l m:Int} {xs ys:List Itm} (HX:ConC h X l xs) (HY:ConC h Y m ys) (hx:∀ x∈xs,x.ok) (hy:∀ x∈ys,x.ok) (hn:xs.length<100000) (hm:ys.length<100000) :
  CS cx o (.fn 22 [X,Y]) h (.ret (.p (.bool (decide (l=m∧xs=ys))))) h:=by
 obtain⟨q,hq,hX⟩:=HX.co
 obtain⟨q',hq',hY⟩:=HY.co
 refine cs_pure (c:=cx) (o:=o) (f:=22) (ps:=[q,q']) (.cons hq (.cons hq' .nil)) rfl fun h0 as0 H0=>?_
 obtain⟨X0,Y0,rfl,r0,r1⟩:=l2_2 H0
 exact same22 ho (hX h0 X0 r0) (hY h0 Y0 r1) hx hy hn hm
end
theorem itB_le{l:Int} {x:Itm} (hx:x.ok):(itB l x).length≤x.key.length+22∧16≤(itB l x).length:=by
 unfold itB
 have h1:x.sum.length=16:=hx
 have h2:=be_length 1 x.key.length
 have h3:=be_length 4 x.count.toNat
 have h4:(if l > 0∨x.tree=true then be x.count.toNat 4 else []).length≤4:=by split<;>simp [h3]
 have h5:(if l=0 then [if x.tree=true then(1:UInt8)else 0]else []).length≤1:=by split<;>simp
 rw[List.length_append,List.length_append,List.length_append,List.length_append,h1,h2]
 omega
theorem itsB_le{l:Int}:∀ xs:List Itm,(∀ x∈xs,x.ok)→(∀ x∈xs,x.key.length≤300)→(itsB l xs).length≤322*xs.length∧16*xs.length≤(itsB l xs).length:=by
 intro xs
 induction xs with
 |nil=>intro _ _;exact⟨Nat.le_refl _,Nat.le_refl _⟩
 |cons x xs ih=>
  intro h1 h2
  have:=ih (fun y hy=>h1 y (List.mem_cons_of_mem _ hy)) (fun y hy=>h2 y (List.mem_cons_of_mem _ hy))
  have h3:=itB_le (l:=l) (h1 x List.mem_cons_self)
  have h4:=h2 x List.mem_cons_self
  show(itB l x++itsB l xs).length≤_∧_≤(itB l x++itsB l xs).length
  rw[List.length_append,List.length_cons]
  omega
theorem cB_le{l:Int} {xs:List Itm} (h1:∀ x∈xs,x.ok) (h2:∀ x∈xs,x.key.length≤300):(cB l xs).length≤3+322*xs.length∧3+16*xs.length≤(cB l xs).length:=by
 have:=itsB_le (l:=l) xs h1 h2
 unfold cB
 rw[List.length_append,List.length_append,be_length,be_length]
 omega
open Classical in
theorem paR_inv{s:List UInt8} {l:Int} {xs:List Itm} (h:paR s=some (l,xs)):VP l xs∧cB l xs=s∧∀ x∈xs,IOk l x:=pC_inv VP h
open Classical in
theorem paR_cB{l:Int} {xs:List Itm} (hv:VP l xs) (hs:∀ x∈xs,x.ok):paR (cB l xs)=some (l,xs):=pC_cB VP vp_known hv hs
section
variable {o:Orc} (ho:FreeT o)
include ho
set_option maxHeartbeats 4000000
theorem call17(hsane:Ct cx o (.fn 17 []) [] (fun e _=>e=.ret (.p (.bool true)))) {h dst t d' r K Q}:callW cx o dst t h d' r (some (.fn 17 [])) K Q=K (put dst (.p (.bool true)) t) h d' r:=callW_ret (by kernel_rfl) (cs_p (f:=17) (ps:=[]) rfl hsane)
theorem tail4(hsane:Ct cx o (.fn 17 []) [] (fun e _=>e=.ret (.p (.bool true)))) {s:List UInt8} (hl:s.length≤3000) {M:List Ob} {t:Tm} {ib:Nat} {l:Int} {xs:List Itm} {E:Int} {v:AV} (hM:hget M ib=.cells 44 [.p (.int .i64 l),v]) (hC:ConC M (mkAgg [.p (.int .i64 l),v]) l xs) (hW:PaW s l xs E)
  (t1:t.get 1=.p (.str s)) (t9:t.get 9=.ptr ib 0) (t10:t.get 10=.p (.int .i64 E)) :
  xC cx o none (.seq (.seq (.reg sc4r19) (.cond (.tmp 95) (.seq (.reg sc4r20) (.seq (.reg sc4r21) .ret)) .skip)) (.seq (.reg sc4r22) .ret)) (endP cx [.tmp 4] (fun e _=>e=.ret (.p (.bool true)))) t M [] none:=by
 unfold PaW at hW
 cases hp:paR s with
 |none=>
  rw[hp]at hW
  obtain⟨rfl,-,-⟩:=hW
  have e1:decide ((2:Int)=0)=false:=rfl
  simp only[sc4r0,sc4r1,sc4r2,sc4r3,sc4r4,sc4r5,sc4r6,sc4r7,sc4l8,sc4r9,sc4r10,sc4r11,sc4r12,sc4r13,sc4r14,sc4r15,sc4r16,sc4r17,sc4r18,sc4r19,sc4r20,sc4r21,sc4r22,sc4,↓rwS,↓rwX,rwZ,rwT,rwG,Nat.reduceEqDiff,Nat.reduceAdd,reduceCtorEq,Nat.reduceLT,t1,t9,t10,e1,call17 ho hsane]
  done
 |some z=>
  obtain⟨m,ys⟩:=z
  rw[hp]at hW
  obtain⟨rfl,rfl,rfl⟩:=hW
  obtain⟨hv,hcB,hi⟩:=paR_inv hp
  have hok:∀ x∈xs,x.ok:=fun x hx=>(hi x hx).sum
  have hky:∀ x∈xs,x.key.length≤300:=fun x hx=>by have:=(hi x hx).key;omega
  have hlen:=cB_le (l:=l) hok hky
  rw[hcB]at hlen
  have ld:load? cx M 44 (.ptr ib 0)=some (mkAgg [.p (.int .i64 l),v]):=load_whole a44 s44 hM rfl
  have c18:=cs18 ho hC hok (by omega) (fun x hx=>by have:=hky x hx;omega)
  unfold byR at c18
  rw[if_pos (vB_t hv).symm,if_pos (vB_t hv).symm,hcB]at c18
  simp only[sc4r0,sc4r1,sc4r2,sc4r3,sc4r4,sc4r5,sc4r6,sc4r7,sc4l8,sc4r9,sc4r10,sc4r11,sc4r12,sc4r13,sc4r14,sc4r15,sc4r16,sc4r17,sc4r18,sc4r19,sc4r20,sc4r21,sc4r22,sc4,↓rwS,↓rwX,rwZ,rwT,rwG,Nat.reduceEqDiff,Nat.reduceAdd,reduceCtorEq,Nat.reduceLT,t1,t9,t10,ld,callW_ret ext18 c18,decide_true,call17 ho hsane]
  done
structure LawC (C:PV) (l:Int) (xs:List Itm):Prop where
 v:∃ q,C=.agg [.int .i64 l,q]∧SlP 19 q (xs.map Itm.V)
 ok:∀ x∈xs,x.ok
theorem body4(hsane:Ct cx o (.fn 17 []) [] (fun e _=>e=.ret (.p (.bool true)))) {s:List UInt8} (hl:s.length≤3000) {l:Int} {q:PV} {xs:List Itm} (hq:SlP 19 q (xs.map Itm.V)) (hok:∀ x∈xs,x.ok) (hn:xs.length≤200) (hky:∀ x∈xs,x.key.length≤300) {t:Tm} (t1:t.get 1=.p (.str s)) (t2:t.get 2=.ptr 0 0) :
  xC cx o none (.seq (.reg sc4r9) (.seq (.reg sc4r10) (.seq (.reg sc4r11) (.seq (.reg sc4r12) (.seq (.seq (.reg sc4r13) (.cond (.tmp 78) (.seq (.reg sc4r14) .ret) .skip)) (.seq (.seq (.reg sc4r15) (.cond (.tmp 80) (.seq (.reg sc4r16) (.seq (.reg sc4r17) (.cond (.tmp 93) (.seq (.reg sc4r18) .ret) .skip))) .skip)) (.seq (.seq (.reg sc4r19) (.cond (.tmp 95) (.seq (.reg sc4r20) (.seq (.reg sc4r21) .ret)) .skip)) (.seq (.reg sc4r22) .ret)))))))) (endP cx [.tmp 4] (fun e _=>e=.ret (.p (.bool true)))) t [.cells 44 [.p (.int .i64 l),.p q]] [] none:=by
 have hIs:IsS 19 (.pv q) (xs.map Itm.V):=by
  generalize xs.map Itm.V=zs at hq
  cases hq with
  |nil=>exact .nil
  |vec=>exact .vec _
 have hC:∀ M:List Ob,ConC M (mkAgg [.p (.int .i64 l),.p q]) l xs:=fun M=>con_mk (.p q) hIs
 have ld0:∀ {M:List Ob},hget M 0=.cells 44 [.p (.int .i64 l),.p q]→load? cx M 44 (.ptr 0 0)=some (mkAgg [.p (.int .i64 l),.p q]):=fun {M} g=>load_whole a44 s44 g rfl
 have hk:∀ x∈xs,x.key.length<1000:=fun x hx=>by have:=hky x hx;omega
 have c18:=cs18 ho (hC [.cells 44 [.p (.int .i64 l),.p q]]) hok (by omega) hk
 have c19:=cs19 ho (hC [.cells 44 [.p (.int .i64 l),.p q]]) hok (by omega) hk
 have hbR:byR l xs=.tup [.p (.str (byS l xs)),.p (.int .i64 (byE l xs))]:=rfl
 rw[hbR]at c18
 have zc50:(PV.agg [.str [],.int .i64 0]).cells.map AV.p=[.p (.str []),.p (.int .i64 0)]:=rfl
 have zc44:(PV.agg [.int .i64 0,.nils]).cells.map AV.p=[.p (.int .i64 0),.p .nils]:=rfl
 have zc55:(PV.agg [.int .i64 0,.nils,.int .i64 0]).cells.map AV.p=[.p (.int .i64 0),.p .nils,.p (.int .i64 0)]:=rfl
 have st50:∀ a b,store? cx [.cells 44 [.p (.int .i64 l),.p q],.cells 50 [.p (.str []),.p (.int .i64 0)]] 50 (.ptr 1 0) (.p (.agg [a,b]))=.ws undefA 1 (.cells 50 [.p a,.p b]):=fun a b=>store_whole s50 rfl rfl rfl rfl
 have H1:∀ {x y o':Ob},hset [x,y] 1 o'=[x,o']:=fun {x y o'}=>rfl
 obtain⟨X,l1,xs1,E1,ext1,c20,hX,hW1⟩:=cs20 ho (show s.length<100000 by omega) [.cells 44 [.p (.int .i64 l),.p q],.cells 50 [.p (.str (byS l xs)),.p (.int .i64 (byE l xs))]]
 have g30:hget ([.cells 44 [.p (.int .i64 l),.p q],.cells 50 [.p (.str (byS l xs)),.p (.int .i64 (byE l xs))]]++ext1) 0=.cells 44 [.p (.int .i64 l),.p q]:=rfl
 have g31:hget ([.cells 44 [.p (.int .i64 l),.p q],.cells 50 [.p (.str (byS l xs)),.p (.int .i64 (byE l xs))]]++ext1) 1=.cells 50 [.p (.str (byS l xs)),.p (.int .i64 (byE l xs))]:=rfl
 have l3:1<([Ob.cells 44 [.p (.int .i64 l),.p q],.cells 50 [.p (.str (byS l xs)),.p (.int .i64 (byE l xs))]]++ext1).length:=by simp
 generalize [Ob.cells 44 [.p (.int .i64 l),.p q],.cells 50 [.p (.str (byS l xs)),.p (.int .i64 (byE l xs))]]++ext1=M3 at *
 obtain⟨v1,cv1,hXc,hXv,hXs⟩:=hX
 have st44:∀ {h:List Ob} {i:Nat} {X:AV} {l1:Int} {v1:AV},X.cells?=some [.p (.int .i64 l1),v1]→hget h i=.cells 44 [.p (.int .i64 0),.p .nils]→store? cx h 44 (.ptr i 0) X=.ws undefA i (.cells 44 [.p (.int .i64 l1),v1]):=fun a b=>store_whole s44 b a rfl rfl
 have sX:=st44 hXc (hget_new M3 _)
 have g4:=hget_new M3 (.cells 44 [.p (.int .i64 l1),v1])
 have g40:=(hget_app M3 (.cells 44 [.p (.int .i64 l1),v1]) 0 (by omega)).trans g30
 have g41:=(hget_app M3 (.cells 44 [.p (.int .i64 l1),v1]) 1 (by omega)).trans g31
 have l4:M3.length<(M3++[Ob.cells 44 [.p (.int .i64 l1),v1]]).length:=by simp
 obtain⟨Y,l2,xs2,E2,ext2,c21,hY,hW2⟩:=cs21 ho (show s.length<100000 by omega) (M3++[.cells 44 [.p (.int .i64 l1),v1]])
 have hX4:=hXv.ext [.cells 44 [.p (.int .i64 l1),v1]]
 have nX:=hset_new M3 (.cells 44 [.p (.int .i64 0),.p .nils]) (.cells 44 [.p (.int .i64 l1),v1])
 generalize M3++[.cells 44 [.p (.int .i64 l1),v1]]=M4 at *
 have l5:M4.length≤(M4++ext2).length:=by simp
 have hX5:=hX4.ext ext2
 have g5:=(hget_appL ext2 M3.length l4).trans g4
 have g50:=(hget_appL ext2 0 (show 0<M4.length by omega)).trans g40
 have g51:=(hget_appL ext2 1 (show 1<M4.length by omega)).trans g41
 generalize M4++ext2=M5 at *
 obtain⟨v2,cv2,hYc,hYv,hYs⟩:=hY
 have sY:store? cx (M5++[.cells 55 [.p (.int .i64 0),.p .nils,.p (.int .i64 0)]]) 55 (.ptr M5.length 0) Y=.ws undefA M5.length (.cells 55 [.p (.int .i64 l2),v2,.p (.int .i64 E2)]):=store_whole s55 (hget_new M5 _) hYc rfl rfl
 have nY:=hset_new M5 (.cells 55 [.p (.int .i64 0),.p .nils,.p (.int .i64 0)]) (.cells 55 [.p (.int .i64 l2),v2,.p (.int .i64 E2)])
 have g6:=hget_new M5 (.cells 55 [.p (.int .i64 l2),v2,.p (.int .i64 E2)])
 have g6b:=(hget_app M5 (.cells 55 [.p (.int .i64 l2),v2,.p (.int .i64 E2)]) M3.length (by omega)).trans g5
 have g60:=(hget_app M5 (.cells 55 [.p (.int .i64 l2),v2,.p (.int .i64 E2)]) 0 (by omega)).trans g50
 have g61:=(hget_app M5 (.cells 55 [.p (.int .i64 l2),v2,.p (.int .i64 E2)]) 1 (by omega)).trans g51
 have hX6:=hX5.ext [.cells 55 [.p (.int .i64 l2),v2,.p (.int .i64 E2)]]
 have hY6:=hYv.ext [.cells 55 [.p (.int .i64 l2),v2,.p (.int .i64 E2)]]
 have l6:(M5++[Ob.cells 55 [.p (.int .i64 l2),v2,.p (.int .i64 E2)]]).length=M5.length+1:=by simp
 generalize M5++[.cells 55 [.p (.int .i64 l2),v2,.p (.int .i64 E2)]]=M6 at *
 -- what both say
 have hEE:E1=E2∧l1=l2∧xs1=xs2:=by
  unfold PaW at hW1 hW2
  cases hp:paR s with
  |none=>rw[hp]at hW1 hW2;exact⟨hW1.1.trans hW2.1.symm,hW1.2.1.trans hW2.2.1.symm,hW1.2.2.trans hW2.2.2.symm⟩
  |some z=>rw[hp]at hW1 hW2;exact⟨hW1.1.trans hW2.1.symm,hW1.2.1.trans hW2.2.1.symm,hW1.2.2.trans hW2.2.2.symm⟩
 obtain⟨rfl,rfl,rfl⟩:=hEE
 have hok1:(∀ x∈xs1,x.ok)∧xs1.length<20000:=by
  unfold PaW at hW1
  cases hp:paR s with
  |none=>rw[hp]at hW1;rw[hW1.2.2];simp
  |some z=>
   rw[hp]at hW1
   obtain⟨m,ys⟩:=z
   obtain⟨rfl,rfl,rfl⟩:=hW1
   obtain⟨hv,hcB,hi⟩:=paR_inv hp
   have h1:∀ x∈xs1,x.ok:=fun x hx=>(hi x hx).sum
   have:=cB_le (l:=l1) h1 (fun x hx=>by have:=(hi x hx).key;omega)
   rw[hcB]at this
   exact⟨h1,by omega⟩
 have hXC:ConC M6 (mkAgg [.p (.int .i64 l1),v1]) l1 xs1:=con_mk hX6 hXs
 have hYC:ConC M6 (mkAgg [.p (.int .i64 l1),v2]) l1 xs1:=con_mk hY6 hYs
 have c22:=cs22 ho hXC hYC hok1.1 hok1.1 (by omega) (by omega)
 rw[decide_eq_true (show l1=l1∧xs1=xs1 from⟨rfl,rfl⟩)]at c22
 have ldX:load? cx M6 44 (.ptr M3.length 0)=some (mkAgg [.p (.int .i64 l1),v1]):=load_whole a44 s44 g6b rfl
 have ldY:load? cx M6 44 (.ptr M5.length 0)=some (mkAgg [.p (.int .i64 l1),v2]):=load_part (n:=2) (off:=0) a44 s44 g6 (by simp)
 have lyE:load? cx M6 36 (.ptr M5.length 2)=some (.p (.int .i64 E1)):=load_one a36 g6 rfl
 have lx0:load? cx M6 9 (.ptr 1 0)=some (.p (.str (byS l xs))):=load_one a9 g61 rfl
 have lx1:load? cx M6 36 (.ptr 1 1)=some (.p (.int .i64 (byE l xs))):=load_one a36 g61 rfl
 have fp50_0:∀ k,fieldAddr? cx 50 (.ptr k 0) 0=some (.ptr k 0):=fun k=>fieldAddr_ptr (m:=0) f50_0 s9
 have fp50_1:∀ k,fieldAddr? cx 50 (.ptr k 0) 1=some (.ptr k 1):=fun k=>fieldAddr_ptr (m:=0) f50_1 s36
 have fp55_0:∀ k,fieldAddr? cx 55 (.ptr k 0) 0=some (.ptr k 0):=fun k=>fieldAddr_ptr (m:=1) f55_0 s44
 have fp55_1:∀ k,fieldAddr? cx 55 (.ptr k 0) 1=some (.ptr k 2):=fun k=>fieldAddr_ptr (m:=0) f55_1 s36
 have G:∀ {M:List Ob} {t':Tm},hget M M3.length=.cells 44 [.p (.int .i64 l1),v1]→ConC M (mkAgg [.p (.int .i64 l1),v1]) l1 xs1→t'.get 1=.p (.str s)→t'.get 9=.ptr M3.length 0→t'.get 10=.p (.int .i64 E1)→_:=fun {M t'} a1 a2 a3 a4 a5=>tail4 ho hsane hl (M:=M) (t:=t') a1 a2 hW1 a3 a4 a5
 have ld0i:=ld0 (M:=[.cells 44 [.p (.int .i64 l),.p q]]) rfl
 generalize hR:SC.seq (.seq (.reg sc4r19) (.cond (.tmp 95) (.seq (.reg sc4r20) (.seq (.reg sc4r21) .ret)) .skip)) (.seq (.reg sc4r22) .ret)=R at *
 cases hvb:vB l xs with
 |false=>
  have e1:decide (byE l xs=0)=false:=by unfold byE;rw[hvb];rfl
  simp only[sc4r9,sc4r10,sc4r11,sc4r12,sc4r13,sc4r14,sc4r15,sc4r16,sc4r17,sc4r18,↓rwS,↓rwX,rwZ,rwT,rwG,Nat.reduceEqDiff,Nat.reduceAdd,reduceCtorEq,Nat.reduceLT,t1,t2,ld0i,callW_ret ext18 c18,callW_ret ext19 c19,z50,zc50,z44,zc44,z55,zc55,List.cons_append,List.nil_append,List.length_cons,List.length_nil,st50,H1,callW_ret ext20 c20,sX,nX,callW_ret ext21 c21,sY,nY,fp50_0,fp50_1,fp55_0,fp55_1,ldX,ldY,lyE,lx0,lx1,callW_ret ext22 c22,decide_true,e1]
  refine G g6b hXC ?_ ?_ ?_<;>simp only[Tm.get_set,Nat.reduceEqDiff,if_true,if_false,t1]
 |true=>
  have e1:decide (byE l xs=0)=true:=by unfold byE;rw[hvb];rfl
  have hbs:byS l xs=cB l xs:=by unfold byS;rw[hvb];rfl
  have hvp:=vb_vp ho hvb
  have hcl:=cB_le (l:=l) hok hky
  obtain⟨X3,l3',xs3,E3,ext3,c20b,hX3,hW3⟩:=cs20 ho (show(byS l xs).length<100000 by rw[hbs];omega) M6
  unfold PaW at hW3
  rw[hbs,paR_cB hvp hok]at hW3
  obtain⟨rfl,rfl,rfl⟩:=hW3
  have g7b:=(hget_appL ext3 M3.length (show M3.length<M6.length by omega)).trans g6b
  have g70:=(hget_appL ext3 0 (show 0<M6.length by omega)).trans g60
  have hXC7:=con_ext hXC ext3
  have l7:M6.length≤(M6++ext3).length:=by simp
  generalize M6++ext3=M7 at *
  obtain⟨v3,cv3,hZc,hZv,hZs⟩:=hX3
  have sZ:=st44 hZc (hget_new M7 _)
  have nZ:=hset_new M7 (.cells 44 [.p (.int .i64 0),.p .nils]) (.cells 44 [.p (.int .i64 l3'),v3])
  have g8:=hget_new M7 (.cells 44 [.p (.int .i64 l3'),v3])
  have g8b:=(hget_app M7 (.cells 44 [.p (.int .i64 l3'),v3]) M3.length (by omega)).trans g7b
  have g80:=(hget_app M7 (.cells 44 [.p (.int .i64 l3'),v3]) 0 (by omega)).trans g70
  have hXC8:=con_ext hXC7 [.cells 44 [.p (.int .i64 l3'),v3]]
  have hZC:ConC (M7++[.cells 44 [.p (.int .i64 l3'),v3]]) (mkAgg [.p (.int .i64 l3'),v3]) l3' xs3:=con_mk (hZv.ext _) hZs
  have c22b:=cs22 ho hZC (hC (M7++[.cells 44 [.p (.int .i64 l3'),v3]])) hok hok (by omega) (by omega)
  rw[decide_eq_true (show l3'=l3'∧xs3=xs3 from⟨rfl,rfl⟩)]at c22b
  generalize M7++[.cells 44 [.p (.int .i64 l3'),v3]]=M8 at *
  have ldZ:load? cx M8 44 (.ptr M7.length 0)=some (mkAgg [.p (.int .i64 l3'),v3]):=load_whole a44 s44 g8 rfl
  have ldC:=ld0 g80
  have e2:decide ((0:Int)=0)=true:=rfl
  simp only[sc4r9,sc4r10,sc4r11,sc4r12,sc4r13,sc4r14,sc4r15,sc4r16,sc4r17,sc4r18,↓rwS,↓rwX,rwZ,rwT,rwG,Nat.reduceEqDiff,Nat.reduceAdd,reduceCtorEq,Nat.reduceLT,t1,t2,ld0i,callW_ret ext18 c18,callW_ret ext19 c19,z50,zc50,z44,zc44,z55,zc55,List.cons_append,List.nil_append,List.length_cons,List.length_nil,st50,H1,callW_ret ext20 c20,sX,nX,callW_ret ext21 c21,sY,nY,fp50_0,fp50_1,fp55_0,fp55_1,ldX,ldY,lyE,lx0,lx1,callW_ret ext22 c22,decide_true,e1,callW_ret ext20 c20b,sZ,nZ,ldZ,ldC,callW_ret ext22 c22b,Bool.not_true,e2]
  refine G g8b hXC8 ?_ ?_ ?_<;>simp only[Tm.get_set,Nat.reduceEqDiff,if_true,if_false,t1]
end
section
variable {o:Orc} (ho:FreeT o)
include ho
set_option maxHeartbeats 4000000
theorem law4(hsane:Ct cx o (.fn 17 []) [] (fun e _=>e=.ret (.p (.bool true)))) {s:List UInt8} {l:Int} {q:PV} {xs:List Itm} (hq:SlP 19 q (xs.map Itm.V)) (hok:∀ x∈xs,x.ok) :
  Ct cx o (.fn 4 [.p (.agg [.int .i64 l,q]),.p (.str s)]) [] (fun e _=>e=.ret (.p (.bool true))):=by
 refine ct4 (ho _ _ _ (by decide)) rfl ?_
 have hb:∀ hh:List Ob,boxW hh 44 (.p (.agg [.int .i64 l,q]))=.wn (.ptr hh.length 0) (.cells 44 [.p (.int .i64 l),.p q]):=fun hh=>rfl
 have l1:=con_l1 (h:=[.cells 44 [.p (.int .i64 l),.p q]]) (i:=0) (l:=l) (v:=.p q) rfl
 have hS:Sl [.cells 44 [.p (.int .i64 l),.p q]] 19 (.p q) (xs.map Itm.V):=hq.sl _
 have ln:=hS.len u42
 rw[List.length_map]at ln
 by_cases h1:xs.length≤200
 case neg=>
  have e1:decide ((200:Int)<(xs.length:Int))=true:=decide_eq_true (by omega)
  simp only[sc4r0,sc4r1,sc4r2,sc4r3,sc4r4,sc4r5,sc4r6,sc4r7,sc4l8,sc4r9,sc4r10,sc4r11,sc4r12,sc4r13,sc4r14,sc4r15,sc4r16,sc4r17,sc4r18,sc4r19,sc4r20,sc4r21,sc4r22,sc4,↓rwS,↓rwX,rwZ,rwT,rwG,Nat.reduceEqDiff,Nat.reduceAdd,reduceCtorEq,Nat.reduceLT,hb,List.nil_append,List.length_nil,fp44_1,l1,ln,e1,call17 ho hsane]
  done
 have e1:decide ((200:Int)<(xs.length:Int))=false:=decide_eq_false (by omega)
 by_cases h2:s.length≤3000
 case neg=>
  have e2:decide ((3000:Int)<(s.length:Int))=true:=decide_eq_true (by omega)
  simp only[sc4r0,sc4r1,sc4r2,sc4r3,sc4r4,sc4r5,sc4r6,sc4r7,sc4l8,sc4r9,sc4r10,sc4r11,sc4r12,sc4r13,sc4r14,sc4r15,sc4r16,sc4r17,sc4r18,sc4r19,sc4r20,sc4r21,sc4r22,sc4,↓rwS,↓rwX,rwZ,rwT,rwG,Nat.reduceEqDiff,Nat.reduceAdd,reduceCtorEq,Nat.reduceLT,hb,List.nil_append,List.length_nil,fp44_1,l1,ln,e1,e2,call17 ho hsane]
  done
 have e2:decide ((3000:Int)<(s.length:Int))=false:=decide_eq_false (by omega)
 have B:=fun(hk:∀ x∈xs,x.key.length≤300) {t:Tm}=>body4 ho hsane (l:=l) h2 hq hok h1 hk (t:=t)
 unfold sc4
 generalize SC.seq (.reg sc4r9) (.seq (.reg sc4r10) (.seq (.reg sc4r11) (.seq (.reg sc4r12) (.seq (.seq (.reg sc4r13) (.cond (.tmp 78) (.seq (.reg sc4r14) .ret) .skip)) (.seq (.seq (.reg sc4r15) (.cond (.tmp 80) (.seq (.reg sc4r16) (.seq (.reg sc4r17) (.cond (.tmp 93) (.seq (.reg sc4r18) .ret) .skip))) .skip)) (.seq (.seq (.reg sc4r19) (.cond (.tmp 95) (.seq (.reg sc4r20) (.seq (.reg sc4r21) .ret)) .skip)) (.seq (.reg sc4r22) .ret)))))))=R at *
 simp only[sc4r0,sc4r1,sc4r2,sc4r3,↓rwS,↓rwX,rwZ,rwT,rwG,Nat.reduceEqDiff,Nat.reduceAdd,reduceCtorEq,Nat.reduceLT,hb,List.nil_append,List.length_nil,fp44_1,l1,ln,e1,e2]
 refine xC_loop (fun m t h d r=>∃ k,m+k=xs.length∧d=[]∧r=none∧h=[.cells 44 [.p (.int .i64 l),.p q]]∧t.get 1=.p (.str s)∧t.get 2=.ptr 0 0∧t.get 5=.p (.int .i64 (k:Int))∧∀ i,i<k→(xs.getD i Itm.z).key.length≤300) xs.length ?_ ?_
 ·refine⟨0,rfl,rfl,rfl,rfl,?_,?_,?_,fun i hi=>absurd hi (Nat.not_lt_zero _)⟩<;>simp only[Tm.get_set,Nat.reduceEqDiff,if_true,if_false]<;>rfl
 ·rintro m t h d r ⟨k,hmk,rfl,rfl,rfl,t1,t2,t5,hk⟩
  by_cases hkn:k<xs.length
  ·have e3:decide ((k:Int)<(xs.length:Int))=true:=decide_eq_true (by omega)
   obtain⟨a1,a2⟩:=it_at hS hkn hok
   obtain⟨ad,a3,a4⟩:=it_key hS hkn
   by_cases h3:(xs.getD k Itm.z).key.length≤300
   ·have e4:decide ((300:Int)<((xs.getD k Itm.z).key.length:Int))=false:=decide_eq_false (by omega)
    have w:IntKind.wrap .i64 ((k:Int)+1)=((k+1:Nat):Int):=by rw[wrap64_id (by omega) (by omega)];omega
    simp only[sc4l8,sc4r4,sc4r5,sc4r6,sc4r7,↓rwS,↓rwX,rwZ,rwT,rwG,Nat.reduceEqDiff,Nat.reduceAdd,reduceCtorEq,Nat.reduceLT,t2,t5,fp44_1,l1,ln,e3,a1,a3,a4,e4,w]
    refine⟨m-1,by omega,k+1,by omega,trivial,trivial,trivial,?_,?_,?_,fun i hi=>?_⟩
    case refine_4=>
     by_cases q:i=k
     ·rw[q];exact h3
     ·exact hk i (by omega)
    all_goals simp only[Tm.get_set,Nat.reduceEqDiff,if_true,if_false,t1,t2]
   ·have e4:decide ((300:Int)<((xs.getD k Itm.z).key.length:Int))=true:=decide_eq_true (by omega)
    simp only[sc4l8,sc4r4,sc4r5,sc4r6,sc4r7,↓rwS,↓rwX,rwZ,rwT,rwG,Nat.reduceEqDiff,Nat.reduceAdd,reduceCtorEq,Nat.reduceLT,t2,t5,fp44_1,l1,ln,e3,a1,a3,a4,e4,call17 ho hsane]
    done
  ·have e3:decide ((k:Int)<(xs.length:Int))=false:=decide_eq_false (by omega)
   have hkA:∀ x∈xs,x.key.length≤300:=fun x hx=>by
    obtain⟨i,hi,rfl⟩:=List.getElem_of_mem hx
    have:=hk i (by omega)
    rwa[show xs.getD i Itm.z=xs[i] by simp [List.getD,hi]]at this
   simp only[sc4l8,sc4r4,↓rwS,↓rwX,rwZ,rwT,rwG,Nat.reduceEqDiff,Nat.reduceAdd,reduceCtorEq,Nat.reduceLT,t2,t5,fp44_1,l1,ln,e3,blockP_exit]
   refine B hkA ?_ ?_<;>simp only[Tm.get_set,Nat.reduceEqDiff,if_true,if_false,t1,t2]
end
end Go.Proofs

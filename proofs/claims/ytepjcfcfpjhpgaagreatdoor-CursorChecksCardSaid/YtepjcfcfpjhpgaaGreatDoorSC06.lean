/- What is proved: contracts of the program's check of pages, part 1. Conditions: as before. -/
import Derived.Test.YtepjcfcfpjhpgaaGreatDoorSC05
set_option linter.all false
set_option maxRecDepth 100000
namespace Go.Proofs
open Go Go.Ai
theorem one63{i:Nat} (h:i+1<9223372036854775808):IntKind.wrap .i64 ((i:Int)+1)=((i+1:Nat):Int):=by
 rw[wrap64_id (by omega) (by omega)];omega
inductive SlQ (sz:Nat):PV→List PV→Prop
 |sl {p xs}:SlP sz p xs→SlQ sz p xs
 |emp:SlQ sz (.vec 0 []) []
theorem SlQ.len{sz p xs ty e} (H:SlQ sz p xs) (hu:cx.under ty=some (.slice e)) (h:List Ob):lenW cx h ty (.p p)=.w (.p (.int .i64 xs.length)):=by
 cases H with
 |sl H=>exact(H.sl h).len hu
 |emp=>exact len_vec hu
theorem SlQ.eok{sz p xs} (H:SlQ sz p xs):EOk cx 23 p:=by
 cases H with
 |sl H=>exact H.eok
 |emp=>
  refine⟨?_,?_⟩
  ·unfold loadC;rw[a23]
  ·unfold part?;rw[a23];rfl
theorem SlP.at{sz p xs} {ty e:TypeId} {k:Nat} (H:SlP (sz+1) p xs) (hu:cx.under ty=some (.slice e)) (hs:sizeOf? cx e=some (sz+1)) (hk:k<xs.length):indexAddr? cx ty (.p p) (.p (.int .i64 (k:Int)))=some (.cptr (xs.getD k .nilp)):=by
 rw[(H.sl []).at (sz:=sz) hu hs (by omega) (by omega),Int.toNat_natCast]
 cases H with
 |nil=>simp at hk
 |vec=>rfl
theorem SlQ.at{sz p xs} {ty e:TypeId} {k:Nat} (H:SlQ (sz+1) p xs) (hu:cx.under ty=some (.slice e)) (hs:sizeOf? cx e=some (sz+1)) (hk:k<xs.length):indexAddr? cx ty (.p p) (.p (.int .i64 (k:Int)))=some (.cptr (xs.getD k .nilp)):=by
 cases H with
 |sl H=>exact H.at hu hs hk
 |emp=>simp at hk
theorem ld_ci(h:List Ob) (n:Int):load? cx h 3 (.cptr (.int .i64 n))=some (.p (.int .i64 n)):=(eok_int (c:=cx) (e:=3) a3).1
theorem gtr_s{c:Ctx} {ty:TypeId} {q:Bool} {x y:List UInt8}:bin3 .gtr c ty q (.p (.str x)) (.p (.str y))=.w (.p (.bool (!(Op.bytesLess x y || decide (x=y))))):=by
 show resB (!(Op.bytesLess x y || beqBytes x y))=_
 rw[beqBytes_eq];exact resB_eq _
theorem hset_end(h:List Ob) (a b:Ob):hset (h++[a]) h.length b=h++[b]:=by
 rw[hset_eq,List.set_append_right _ _ (Nat.le_refl _),Nat.sub_self];rfl
theorem hget_end(h:List Ob) (a:Ob):hget (h++[a]) h.length=a:=by
 rw[hget_eq];simp
def Ent.z:Ent:=⟨[],[],0,0,0,0,Dig.z⟩
theorem zent:zero? cx 64=some Ent.z.V:=by kernel_rfl
theorem zent_c:Ent.z.V.cells.map AV.p=Ent.z.cs.map AV.p:=(rfl)
section
variable {e:Ent} {h:List Ob}
theorem ee_st:store? cx (h++[.cells 64 (Ent.z.cs.map .p)]) 64 (.ptr h.length 0) (.p e.V)=.ws undefA h.length e.c:=
 store_whole s64 (hget_end _ _) (show _=some (e.cs.map AV.p)from rfl) rfl rfl
theorem ee_w:load? cx (h++[e.c]) 64 (.ptr h.length 0)=some (.p e.V):=(load_whole a64 s64 (hget_end _ _) rfl).trans rfl
theorem ee_0:load? cx (h++[e.c]) 9 (.ptr h.length 0)=some (.p (.str e.k)):=load_one a9 (hget_end _ _) rfl
theorem ee_c:load? cx h 64 (.cptr e.V)=some (.p e.V):=(eok_agg (c:=cx) (cs:=e.cs) a64 s64 rfl).1
theorem ee_k:fieldAddr? cx 64 (.cptr e.V) 0=some (.cptr (.str e.k)):=by kernel_rfl
theorem ee_kl{s:List UInt8}:load? cx h 9 (.cptr (.str s))=some (.p (.str s)):=(eok_str (c:=cx) (e:=9) a9).1
end
theorem ent_at{p:PV} {es:List Ent} {k:Nat} (H:SlQ 22 p (es.map Ent.V)) (hk:k<es.length):indexAddr? cx 59 (.p p) (.p (.int .i64 (k:Int)))=some (.cptr (es.getD k Ent.z).V):=by
 rw[H.at (sz:=21) u59 s64 (by rw[List.length_map];exact hk)]
 simp [List.getD,hk]
theorem ent_at0{p:PV} {es:List Ent} (H:SlQ 22 p (es.map Ent.V)) (hk:0<es.length):indexAddr? cx 59 (.p p) (.p (.int .i64 0))=some (.cptr (es.getD 0 Ent.z).V):=ent_at H hk
theorem ent_len{p:PV} {es:List Ent} (H:SlQ 22 p (es.map Ent.V)) (h:List Ob):lenW cx h 59 (.p p)=.w (.p (.int .i64 (es.length:Int))):=by
 rw[H.len u59 h,List.length_map]
def cmpS(a b:List UInt8):Int:=if Op.bytesLess a b=true then -1 else if a=b then 0 else 1
def Ent.br(e:Ent):Prop:=e.k.length≤48∧e.v=[]∧e.ov=0∧e.ln=0∧isNo e.ch∧inR e.ct 1 2147483647
open Classical in
noncomputable def Ent.brB(e:Ent):Bool:=decide e.br
section
variable {o:Orc} (ho:FreeT o)
include ho
theorem call233{e:Ent} {h dst t d r K Q}:callW cx o dst t h d r (some (.fn 233 [.p e.V])) K Q=K (put dst (.p (.int .i64 e.form)) t) h d r:=callW_ret ext233 (cs_p (f:=233) (ps:=[e.V]) rfl (form233 ho e))
theorem br234(e:Ent):Ct cx o (.fn 234 [.p e.V]) [] (fun en _=>en=.ret (.p (.bool e.brB))):=by
 refine ct234 (ho _ _ _ (by decide) (by decide)) rfl ?_
 simp only[sc234r0,sc234r1,sc234,↓rwS,↓rwX,rwZ,rwT,rwG,Nat.reduceEqDiff,Nat.reduceAdd,reduceCtorEq,Nat.reduceLT,call211 ho,call210 ho,rwEn,List.nil_append,List.cons_append,List.length_nil,List.length_cons,len_str u9, *]
 repeat' (refine spl (fun hb=>?_) (fun hb=>?_)<;>try simp only[sc234r0,sc234r1,sc234,↓rwS,↓rwX,rwZ,rwT,rwG,Nat.reduceEqDiff,Nat.reduceAdd,reduceCtorEq,Nat.reduceLT,call211 ho,call210 ho,rwEn,List.nil_append,List.cons_append,List.length_nil,List.length_cons,len_str u9, *])
 all_goals(refine ret_bool ?_;unfold Ent.brB Ent.br;grind)
theorem call234{e:Ent} {h dst t d r K Q}:callW cx o dst t h d r (some (.fn 234 [.p e.V])) K Q=K (put dst (.p (.bool e.brB)) t) h d r:=callW_ret ext234 (cs_p (f:=234) (ps:=[e.V]) rfl (br234 ho e))
theorem nan322(s:List UInt8):Ct cx o (.fn 322 [.p (.str s)]) [] (fun e _=>e=.ret (.p (.bool false))):=by
 refine ct322 (ho _ _ _ (by decide) (by decide)) rfl ?_
 simp only[sc322r0,sc322r1,sc322,↓rwA,rwB,rwG,Nat.reduceEqDiff,Nat.reduceAdd,reduceCtorEq,Nat.reduceLT,decide_true,Bool.not_true]
theorem call322{s:List UInt8} {h dst t d r K Q}:callW cx o dst t h d r (some (.fn 322 [.p (.str s)])) K Q=K (put dst (.p (.bool false)) t) h d r:=callW_ret ext322 (cs_p (f:=322) (ps:=[.str s]) rfl (nan322 ho s))
theorem cmp275(a b:List UInt8):Ct cx o (.fn 275 [.p (.str a),.p (.str b)]) [] (fun e _=>e=.ret (.p (.int .i64 (cmpS a b)))):=by
 refine ct275 (ho _ _ _ (by decide) (by decide)) rfl ?_
 simp only[sc275r0,sc275r1,sc275r2,sc275r3,sc275r4,sc275r5,sc275r6,sc275r7,sc275r8,sc275r9,sc275r10,sc275r11,sc275r12,sc275r13,sc275,↓rwS,↓rwX,rwZ,rwT,rwG,Nat.reduceEqDiff,Nat.reduceAdd,reduceCtorEq,Nat.reduceLT,call322 ho,gtr_s, *]
 repeat' (refine spl (fun hb=>?_) (fun hb=>?_)<;>try simp only[sc275r0,sc275r1,sc275r2,sc275r3,sc275r4,sc275r5,sc275r6,sc275r7,sc275r8,sc275r9,sc275r10,sc275r11,sc275r12,sc275r13,sc275,↓rwS,↓rwX,rwZ,rwT,rwG,Nat.reduceEqDiff,Nat.reduceAdd,reduceCtorEq,Nat.reduceLT,call322 ho,gtr_s, *])
 all_goals(unfold cmpS;congr 3;grind)
theorem call275{a b:List UInt8} {h dst t d r K Q}:callW cx o dst t h d r (some (.fn 275 [.p (.str a),.p (.str b)])) K Q=K (put dst (.p (.int .i64 (cmpS a b))) t) h d r:=callW_ret ext275 (cs_p (f:=275) (ps:=[.str a,.str b]) rfl (cmp275 ho a b))
theorem cmp235(a b:List UInt8):Ct cx o (.fn 235 [.p (.str a),.p (.str b)]) [] (fun e _=>e=.ret (.p (.int .i64 (cmpS a b)))):=by
 refine ct235 (ho _ _ _ (by decide) (by decide)) rfl ?_
 simp only[sc235r0,sc235r1,sc235,↓rwS,↓rwX,rwZ,rwT,rwG,Nat.reduceEqDiff,Nat.reduceAdd,reduceCtorEq,Nat.reduceLT,call275 ho]
theorem call235{a b:List UInt8} {h dst t d r K Q}:callW cx o dst t h d r (some (.fn 235 [.p (.str a),.p (.str b)])) K Q=K (put dst (.p (.int .i64 (cmpS a b))) t) h d r:=callW_ret ext235 (cs_p (f:=235) (ps:=[.str a,.str b]) rfl (cmp235 ho a b))
end
def entP(es:List Ent) (lv:Int) (i:Nat):Prop:=(lv=0→(es.getD i Ent.z).form ≠ 0)∧(0<lv→(es.getD i Ent.z).brB=true∧(0<i→(es.getD i Ent.z).k ≠ []))∧(0<i→Op.bytesLess (es.getD (i-1) Ent.z).k (es.getD i Ent.z).k=true)
def ValidP(es:List Ent) (lv:Int):Prop:=inR lv 0 20∧0<es.length∧(0<lv→2≤es.length∧(es.getD 0 Ent.z).k=[])∧∀ i,i<es.length→entP es lv i
open Classical in
noncomputable def validB(es:List Ent) (lv:Int):Bool:=decide (ValidP es lv)
theorem validB_f{es lv} (h:¬ValidP es lv):false=validB es lv:=by unfold validB;simp [h]
theorem validB_t{es lv} (h:ValidP es lv):true=validB es lv:=by unfold validB;simp [h]
theorem cmpS_ge{a b:List UInt8}:decide (0≤cmpS a b) = !Op.bytesLess a b:=by
  unfold cmpS
  cases Op.bytesLess a b
  · simp;split<;>decide
  · simp
section
variable {o:Orc} (ho:FreeT o)
include ho
set_option maxHeartbeats 4000000 in
theorem valid159{p:PV} {es:List Ent} (H:SlQ 22 p (es.map Ent.V)) (hl:es.length<1000000000) (lv:Int):Ct cx o (.fn 159 [.p p,.p (.int .i64 lv)]) [] (fun e _=>e=.ret (.p (.bool (validB es lv)))):=by
  refine ct159 (ho _ _ _ (by decide) (by decide)) rfl ?_
  have hlen:∀ hh:List Ob,lenW cx hh 59 (.p p)=_:=fun hh=>ent_len H hh
  by_cases hne:0<es.length
  · have at0:=ent_at0 H hne
    simp only[sc159r0,sc159r1,sc159r2,sc159r3,sc159r4,sc159r5,sc159r6,sc159r7,sc159r8,sc159r9,sc159d9_x,sc159r10,sc159r11,sc159r13,sc159,↓rwS,↓rwX,rwZ,rwT,rwG,Nat.reduceEqDiff,Nat.reduceAdd,reduceCtorEq,Nat.reduceLT,call211 ho,hlen,at0,ee_k,ee_kl, *]
    repeat' (refine spl (fun hb=>?_) (fun hb=>?_)<;>try simp only[sc159r0,sc159r1,sc159r2,sc159r3,sc159r4,sc159r5,sc159r6,sc159r7,sc159r8,sc159r9,sc159d9_x,sc159r10,sc159r11,sc159r13,sc159,↓rwS,↓rwX,rwZ,rwT,rwG,Nat.reduceEqDiff,Nat.reduceAdd,reduceCtorEq,Nat.reduceLT,call211 ho,hlen,at0,ee_k,ee_kl, *])
    all_goals first
      | (refine ret_bool (validB_f fun q=>?_);unfold ValidP at q;grind)
      |skip
    all_goals
      have hpre:inR lv 0 20∧(0<lv→2≤es.length∧(es.getD 0 Ent.z).k=[]):=by grind
      refine xC_loop (fun n t h' d r=>∃ i:Nat,n=es.length-i∧i≤es.length∧(∀ k,k<i→entP es lv k)∧d=[]∧r=none∧t.get 0=.p p∧t.get 1=.p (.int .i64 lv)∧t.get 31=.p p∧t.get 32=.p (.int .i64 (es.length:Int))∧t.get 33=.p (.int .i64 (i:Int))) es.length ?_ ?_
      · refine⟨0,rfl,by omega,fun k hk=>by omega,rfl,rfl,?_⟩
        simp only[↓rwA,rwB,rwG,Nat.reduceEqDiff,Nat.reduceAdd,reduceCtorEq,Nat.reduceLT,true_and]
        first|rfl|exact trivial
      · rintro n t h' d r ⟨i,rfl,hi,hok,rfl,rfl,t0,t1,t31,t32,t33⟩
        have w1:=one63 (show i+1<9223372036854775808 by omega)
        by_cases hlt:i<es.length
        · have e1:decide ((i:Int)<(es.length:Int))=true:=decide_eq_true (by omega)
          have ai:=ent_at H hlt
          by_cases h0:0<i
          · have e2:decide (0<(i:Int))=true:=decide_eq_true (by omega)
            have w2:=pred64 (show i<4611686018427387904 by omega) h0
            have aj:=ent_at (k:=i-1) H (by omega)
            simp only[sc159r0,sc159r1,sc159r2,sc159r3,sc159r4,sc159r5,sc159r6,sc159r7,sc159r8,sc159r9,sc159d9_x,sc159r10,sc159r11,sc159l12,sc159r13,sc159,↓rwS,↓rwX,rwZ,rwT,rwG,Nat.reduceEqDiff,Nat.reduceAdd,reduceCtorEq,Nat.reduceLT,↓rwC,rwD,rwI,Nat.reduceSub,Nat.reduceLeDiff,LW_bt,LW_bf,true_and,t0,t1,t31,t32,t33,e1,e2,ai,aj,w1,w2,ee_c,ee_k,ee_kl,zent,zent_c,ee_st,ee_w,ee_0,ent_f0,hset_end,call233 ho,call234 ho,call235 ho,cmpS_ge, *]
            repeat' (refine spl (fun hb=>?_) (fun hb=>?_)<;>try simp only[sc159r0,sc159r1,sc159r2,sc159r3,sc159r4,sc159r5,sc159r6,sc159r7,sc159r8,sc159r9,sc159d9_x,sc159r10,sc159r11,sc159l12,sc159r13,sc159,↓rwS,↓rwX,rwZ,rwT,rwG,Nat.reduceEqDiff,Nat.reduceAdd,reduceCtorEq,Nat.reduceLT,↓rwC,rwD,rwI,Nat.reduceSub,Nat.reduceLeDiff,LW_bt,LW_bf,true_and,t0,t1,t31,t32,t33,e1,e2,ai,aj,w1,w2,ee_c,ee_k,ee_kl,zent,zent_c,ee_st,ee_w,ee_0,ent_f0,hset_end,call233 ho,call234 ho,call235 ho,cmpS_ge, *])
            all_goals first
              | (refine ret_bool (validB_f fun q=>?_);have q:=q.2.2.2 i hlt;unfold entP at q;grind)
              | (refine ⟨_, ?_, i + 1, rfl, by omega, fun k hk => ?_, ?_⟩
                 · omega
                 · by_cases qk:k=i
                   · subst qk;unfold entP;grind
                   · exact hok k (by omega)
                 · first|rfl|exact trivial|exact⟨rfl,rfl⟩)
          · have e2:decide (0<(i:Int))=false:=decide_eq_false (by omega)
            simp only[sc159r0,sc159r1,sc159r2,sc159r3,sc159r4,sc159r5,sc159r6,sc159r7,sc159r8,sc159r9,sc159d9_x,sc159r10,sc159r11,sc159l12,sc159r13,sc159,↓rwS,↓rwX,rwZ,rwT,rwG,Nat.reduceEqDiff,Nat.reduceAdd,reduceCtorEq,Nat.reduceLT,↓rwC,rwD,rwI,Nat.reduceSub,Nat.reduceLeDiff,LW_bt,LW_bf,true_and,t0,t1,t31,t32,t33,e1,e2,ai,w1,ee_c,ee_k,ee_kl,zent,zent_c,ee_st,ee_w,ee_0,ent_f0,hset_end,call233 ho,call234 ho, *]
            repeat' (refine spl (fun hb=>?_) (fun hb=>?_)<;>try simp only[sc159r0,sc159r1,sc159r2,sc159r3,sc159r4,sc159r5,sc159r6,sc159r7,sc159r8,sc159r9,sc159d9_x,sc159r10,sc159r11,sc159l12,sc159r13,sc159,↓rwS,↓rwX,rwZ,rwT,rwG,Nat.reduceEqDiff,Nat.reduceAdd,reduceCtorEq,Nat.reduceLT,↓rwC,rwD,rwI,Nat.reduceSub,Nat.reduceLeDiff,LW_bt,LW_bf,true_and,t0,t1,t31,t32,t33,e1,e2,ai,w1,ee_c,ee_k,ee_kl,zent,zent_c,ee_st,ee_w,ee_0,ent_f0,hset_end,call233 ho,call234 ho, *])
            all_goals first
              | (refine ret_bool (validB_f fun q=>?_);have q:=q.2.2.2 i hlt;unfold entP at q;grind)
              | (refine ⟨_, ?_, i + 1, rfl, by omega, fun k hk => ?_, ?_⟩
                 · omega
                 · by_cases qk:k=i
                   · subst qk;unfold entP;grind
                   · exact hok k (by omega)
                 · first|rfl|exact trivial|exact⟨rfl,rfl⟩)
        · have e1:decide ((i:Int)<(es.length:Int))=false:=decide_eq_false (by omega)
          simp only[sc159r0,sc159r1,sc159r2,sc159r3,sc159r4,sc159r5,sc159r6,sc159r7,sc159r8,sc159r9,sc159d9_x,sc159r10,sc159r11,sc159l12,sc159r13,sc159,↓rwS,↓rwX,rwZ,rwT,rwG,Nat.reduceEqDiff,Nat.reduceAdd,reduceCtorEq,Nat.reduceLT,t0,t1,t31,t32,t33,e1]
          exact ret_bool (validB_t ⟨hpre.1,hne,hpre.2,fun k hk=>hok k (by omega)⟩)
  · have hlen0:∀ hh:List Ob,lenW cx hh 59 (.p p)=.w (.p (.int .i64 0)):=fun hh=>by rw[hlen];congr 3;omega
    simp only[sc159r0,sc159r1,sc159r2,sc159r3,sc159r4,sc159r5,sc159r6,sc159r7,sc159r8,sc159r9,sc159d9_x,sc159r10,sc159r11,sc159r13,sc159,↓rwS,↓rwX,rwZ,rwT,rwG,Nat.reduceEqDiff,Nat.reduceAdd,reduceCtorEq,Nat.reduceLT,call211 ho,hlen0,eq_self,decide_true,Bool.not_true, *]
    repeat' (refine spl (fun hb=>?_) (fun hb=>?_)<;>try simp only[sc159r0,sc159r1,sc159r2,sc159r3,sc159r4,sc159r5,sc159r6,sc159r7,sc159r8,sc159r9,sc159d9_x,sc159r10,sc159r11,sc159r13,sc159,↓rwS,↓rwX,rwZ,rwT,rwG,Nat.reduceEqDiff,Nat.reduceAdd,reduceCtorEq,Nat.reduceLT,call211 ho,hlen0,eq_self,decide_true,Bool.not_true, *])
    all_goals(refine ret_bool (validB_f fun q=>?_);unfold ValidP at q;grind)
end
noncomputable def Ent.wt(lv:Int) (e:Ent):Int:=if 0<lv then(e.k.length:Int)+27 else if e.form=1 then(e.k.length:Int)+(e.v.length:Int)+5 else if e.form=2 then(e.k.length:Int)+27 else if e.form=3 then(e.k.length:Int)+29 else 0
noncomputable def Ent.wok(lv:Int) (e:Ent):Bool:=if 0<lv then e.brB else decide (e.form=1∨e.form=2∨e.form=3)
theorem Ent.form_cases(e:Ent):e.form=0∨e.form=1∨e.form=2∨e.form=3:=by
 unfold Ent.form;split
 ·exact .inl rfl
 ·split
  ·exact .inr (.inl rfl)
  ·split
   ·exact .inr (.inr (.inl rfl))
   ·split
    ·exact .inr (.inr (.inr rfl))
    ·exact .inl rfl
theorem Ent.form_key{e:Ent} (h:e.form ≠ 0):inR e.k.length 1 48:=by
 unfold Ent.form at h
 split at h
 ·exact absurd rfl h
 ·rename_i q;exact Classical.not_not.1 q
theorem Ent.form1{e:Ent} (h:e.form=1):e.v.length≤64:=by
 unfold Ent.form at h
 split at h
 ·cases h
 ·split at h
  ·rename_i q;unfold Ent.short at q;omega
  ·split at h
   ·cases h
   ·split at h<;>cases h
theorem Ent.brB_key{e:Ent} (h:e.brB=true):e.k.length≤48:=by
 unfold Ent.brB Ent.br at h
 simp at h;exact h.1
theorem Ent.wt_le{e:Ent} {lv:Int} (h:e.wok lv=true):0≤e.wt lv∧e.wt lv≤200:=by
 unfold Ent.wok at h
 unfold Ent.wt
 split at h
 ·rename_i q
  have:=Ent.brB_key h
  rw[if_pos q];omega
 ·rename_i q
  rw[if_neg q]
  have h:=of_decide_eq_true h
  have hk:=Ent.form_key (e:=e) (by omega)
  unfold inR at hk
  split
  ·rename_i q1;have:=Ent.form1 q1;omega
  ·split
   ·omega
   ·split<;>omega
theorem Ent.wok_v{e:Ent} {lv:Int} (h:e.wok lv=true):e.k.length≤48∧e.v.length≤64:=by
 unfold Ent.wok at h
 split at h
 ·have h1:=h
  unfold Ent.brB Ent.br at h1
  simp at h1
  rw[h1.2.1];exact⟨h1.1,by simp⟩
 ·have h:=of_decide_eq_true h
  have hk:=Ent.form_key (e:=e) (by omega)
  unfold inR at hk
  refine⟨by omega,?_⟩
  rcases h with h|h|h
  ·exact Ent.form1 h
  ·unfold Ent.form at h
   split at h
   ·cases h
   ·split at h
    ·cases h
    ·split at h
     ·rename_i q;rw[q.1];simp
     ·split at h<;>cases h
  ·unfold Ent.form at h
   split at h
   ·cases h
   ·split at h
    ·cases h
    ·split at h
     ·cases h
     ·split at h
      ·rename_i q;rw[q.1];simp
      ·cases h
noncomputable def wsum(lv:Int) (es:List Ent) (n:Nat):Int:=((es.take n).map (Ent.wt lv)).sum
theorem wsum_0{lv:Int} {es:List Ent}:wsum lv es 0=0:=by unfold wsum;simp
theorem wsum_succ{lv:Int} {es:List Ent} {n:Nat} (h:n<es.length):wsum lv es (n+1)=wsum lv es n+(es.getD n Ent.z).wt lv:=by
 unfold wsum
 rw[List.take_succ_eq_append_getElem h,List.map_append,List.sum_append]
 simp [List.getD,h]
theorem wsum_le{lv:Int} {es:List Ent}:∀ {n:Nat},n≤es.length→(∀ k,k<n→(es.getD k Ent.z).wok lv=true)→0≤wsum lv es n∧wsum lv es n≤200*n:=by
 intro n
 induction n with
 |zero=>intro _ _;unfold wsum;simp
 |succ n ih=>
  intro h1 h2
  have:=ih (by omega) (fun k hk=>h2 k (by omega))
  have h3:=Ent.wt_le (h2 n (by omega))
  rw[wsum_succ (by omega)]
  omega
def wP(es:List Ent) (lv:Int):Prop:=inR lv 0 20∧∀ i,i<es.length→(es.getD i Ent.z).wok lv=true
open Classical in
open Classical in
section
variable {o:Orc} (ho:FreeT o)
include ho
theorem weigh321(e:Ent) (lv:Int) (hk:e.k.length<1000000000000) (hv:e.v.length<1000000000000):Ct cx o (.fn 321 [.p e.V,.p (.int .i64 lv)]) [] (fun en _=>en=.ret (.tup [.p (.int .i64 (e.wt lv)),.p (.bool (e.wok lv))])):=by
 refine ct321 (ho _ _ _ (by decide) (by decide)) rfl ?_
 have a1:IntKind.wrap .i64 ((e.k.length:Int)+27)=(e.k.length:Int)+27:=wrap64_id (by omega) (by omega)
 have a2:IntKind.wrap .i64 ((e.k.length:Int)+29)=(e.k.length:Int)+29:=wrap64_id (by omega) (by omega)
 have a3:IntKind.wrap .i64 ((e.k.length:Int)+(e.v.length:Int))=(e.k.length:Int)+(e.v.length:Int):=wrap64_id (by omega) (by omega)
 have a4:IntKind.wrap .i64 ((e.k.length:Int)+(e.v.length:Int)+5)=(e.k.length:Int)+(e.v.length:Int)+5:=wrap64_id (by omega) (by omega)
 simp only[sc321r0,sc321r1,sc321r2,sc321d2_x,sc321r3,sc321r4,sc321r5,sc321r6,sc321r7,sc321r8,sc321r9,sc321r10,sc321,↓rwS,↓rwX,rwZ,rwT,rwG,Nat.reduceEqDiff,Nat.reduceAdd,reduceCtorEq,Nat.reduceLT,↓rwC,rwD,rwI,Nat.reduceSub,Nat.reduceLeDiff,LW_bt,LW_bf,call233 ho,call234 ho,rwEn,List.nil_append,List.cons_append,List.length_nil,List.length_cons,len_str u9,a1,a2,a3,a4, *]
 repeat' (refine spl (fun hb=>?_) (fun hb=>?_)<;>try simp only[sc321r0,sc321r1,sc321r2,sc321d2_x,sc321r3,sc321r4,sc321r5,sc321r6,sc321r7,sc321r8,sc321r9,sc321r10,sc321,↓rwS,↓rwX,rwZ,rwT,rwG,Nat.reduceEqDiff,Nat.reduceAdd,reduceCtorEq,Nat.reduceLT,↓rwC,rwD,rwI,Nat.reduceSub,Nat.reduceLeDiff,LW_bt,LW_bf,call233 ho,call234 ho,rwEn,List.nil_append,List.cons_append,List.length_nil,List.length_cons,len_str u9,a1,a2,a3,a4, *])
 all_goals(unfold Ent.wt Ent.wok;have:=e.form_cases;congr 5<;>grind)
theorem call321{e:Ent} {lv:Int} (hk:e.k.length<1000000000000) (hv:e.v.length<1000000000000) {h dst t d r K Q}:callW cx o dst t h d r (some (.fn 321 [.p e.V,.p (.int .i64 lv)])) K Q=K (put dst (.tup [.p (.int .i64 (e.wt lv)),.p (.bool (e.wok lv))]) t) h d r:=callW_ret ext321 (cs_p (f:=321) (ps:=[e.V,.int .i64 lv]) rfl (weigh321 ho e lv hk hv))
theorem weight273{p:PV} {es:List Ent} (H:SlQ 22 p (es.map Ent.V)) (hl:es.length<1000000000) {lv:Int} (hw:wP es lv):Ct cx o (.fn 273 [.p p,.p (.int .i64 lv)]) [] (fun e _=>e=.ret (.tup [.p (.int .i64 (6+wsum lv es es.length)),.p (.int .i64 0)])):=by
 refine ct273 (ho _ _ _ (by decide) (by decide)) rfl ?_
 have hlen:∀ hh:List Ob,lenW cx hh 59 (.p p)=_:=fun hh=>ent_len H hh
 simp only[sc273r0,sc273r1,sc273r2,sc273r3,sc273r4,sc273r5,sc273r6,sc273r7,sc273r8,sc273r9,sc273r10,sc273r11,sc273r13,sc273,↓rwS,↓rwX,rwZ,rwT,rwG,Nat.reduceEqDiff,Nat.reduceAdd,reduceCtorEq,Nat.reduceLT,call211 ho,hlen,decide_eq_true hw.1,Bool.not_true]
 refine xC_loop (fun n t h' d r=>∃ i:Nat,n=es.length-i∧i≤es.length∧d=[]∧r=none∧t.get 0=.p p∧t.get 1=.p (.int .i64 lv)∧t.get 6=.p (.int .i64 (6+wsum lv es i))∧t.get 14=.p p∧t.get 15=.p (.int .i64 (es.length:Int))∧t.get 16=.p (.int .i64 (i:Int))) es.length ?_ ?_
 ·refine⟨0,rfl,by omega,rfl,rfl,?_⟩
  simp only[↓rwA,rwB,rwG,Nat.reduceEqDiff,Nat.reduceAdd,reduceCtorEq,Nat.reduceLT,true_and,wsum_0,Int.add_zero]
  first|rfl|exact trivial
 ·rintro n t h' d r ⟨i,rfl,hi,rfl,rfl,t0,t1,t6,t14,t15,t16⟩
  have w1:=one63 (show i+1<9223372036854775808 by omega)
  by_cases hlt:i<es.length
  ·have e1:decide ((i:Int)<(es.length:Int))=true:=decide_eq_true (by omega)
   have ai:=ent_at H hlt
   have hk:=Ent.wok_v (hw.2 i hlt)
   have hle:=wsum_le (n:=i) (by omega) (fun k hk=>hw.2 k (by omega))
   have hle1:=Ent.wt_le (hw.2 i hlt)
   have a1:IntKind.wrap .i64 (6+wsum lv es i+(es.getD i Ent.z).wt lv)=6+wsum lv es (i+1):=by
    rw[wsum_succ hlt,wrap64_id (by omega) (by omega)];omega
   simp only[sc273r0,sc273r1,sc273r2,sc273r3,sc273r4,sc273r5,sc273r6,sc273r7,sc273r8,sc273r9,sc273r10,sc273r11,sc273l12,sc273r13,sc273,↓rwC,rwD,rwI,Nat.reduceSub,Nat.reduceLeDiff,↓rwS,↓rwX,rwZ,rwT,rwG,Nat.reduceEqDiff,Nat.reduceAdd,reduceCtorEq,Nat.reduceLT,t0,t1,t6,t14,t15,t16,e1,ai,w1,ee_c,zent,zent_c,ee_st,ee_w,hset_end,call321 ho (show(es.getD i Ent.z).k.length<1000000000000 by omega) (show(es.getD i Ent.z).v.length<1000000000000 by omega),hw.2 i hlt,Bool.not_true,a1,true_and]
   refine⟨_,?_,i+1,rfl,by omega,?_⟩
   ·omega
   ·first|rfl|exact trivial|exact⟨rfl,rfl⟩
  ·have e1:decide ((i:Int)<(es.length:Int))=false:=decide_eq_false (by omega)
   obtain rfl:i=es.length:=by omega
   simp only[sc273r0,sc273r1,sc273r2,sc273r3,sc273r4,sc273r5,sc273r6,sc273r7,sc273r8,sc273r9,sc273r10,sc273r11,sc273l12,sc273r13,sc273,↓rwS,↓rwX,rwZ,rwT,rwG,Nat.reduceEqDiff,Nat.reduceAdd,reduceCtorEq,Nat.reduceLT,t0,t1,t6,t14,t15,t16,e1]
theorem call273{p:PV} {es:List Ent} (H:SlQ 22 p (es.map Ent.V)) (hl:es.length<1000000000) {lv:Int} (hw:wP es lv) {h dst t d r K Q}:callW cx o dst t h d r (some (.fn 273 [.p p,.p (.int .i64 lv)])) K Q=K (put dst (.tup [.p (.int .i64 (6+wsum lv es es.length)),.p (.int .i64 0)]) t) h d r:=callW_ret ext273 (cs_p (f:=273) (ps:=[p,.int .i64 lv]) rfl (weight273 ho H hl hw))
theorem call159{p:PV} {es:List Ent} (H:SlQ 22 p (es.map Ent.V)) (hl:es.length<1000000000) {lv:Int} {h dst t d r K Q}:callW cx o dst t h d r (some (.fn 159 [.p p,.p (.int .i64 lv)])) K Q=K (put dst (.p (.bool (validB es lv))) t) h d r:=callW_ret ext159 (cs_p (f:=159) (ps:=[p,.int .i64 lv]) rfl (valid159 ho H hl lv))
omit ho in
theorem valid_w{es:List Ent} {lv:Int} (h:validB es lv=true):wP es lv:=by
 have hp:ValidP es lv:=by simpa [validB]using h
 refine⟨hp.1,fun i hi=>?_⟩
 have:=hp.2.2.2 i hi
 unfold entP at this
 have hc:=(es.getD i Ent.z).form_cases
 have h0:=hp.1
 unfold inR at h0
 unfold Ent.wok
 by_cases q:0<lv
 ·rw[if_pos q];exact(this.2.1 q).1
 ·rw[if_neg q];have:=this.1 (by omega);exact decide_eq_true (by omega)
noncomputable def fitsB(es:List Ent) (lv:Int):Bool:=validB es lv&&decide (6+wsum lv es es.length≤496)
theorem fits212{p:PV} {es:List Ent} (H:SlQ 22 p (es.map Ent.V)) (hl:es.length<1000000000) (lv:Int):Ct cx o (.fn 212 [.p p,.p (.int .i64 lv)]) [] (fun e _=>e=.ret (.p (.bool (fitsB es lv)))):=by
 refine ct212 (ho _ _ _ (by decide) (by decide)) rfl ?_
 unfold fitsB
 cases hv:validB es lv with
 |false=>simp only[sc212r0,sc212r1,sc212r2,sc212r3,sc212r4,sc212,↓rwS,↓rwX,rwZ,rwT,rwG,Nat.reduceEqDiff,Nat.reduceAdd,reduceCtorEq,Nat.reduceLT,call159 ho H hl,hv,Bool.not_false,Bool.false_and]
 |true=>simp only[sc212r0,sc212r1,sc212r2,sc212r3,sc212r4,sc212,↓rwS,↓rwX,rwZ,rwT,rwG,Nat.reduceEqDiff,Nat.reduceAdd,reduceCtorEq,Nat.reduceLT,call159 ho H hl,hv,Bool.not_true,Bool.true_and,call273 ho H hl (valid_w hv)]
theorem call212{p:PV} {es:List Ent} (H:SlQ 22 p (es.map Ent.V)) (hl:es.length<1000000000) {lv:Int} {h dst t d r K Q}:callW cx o dst t h d r (some (.fn 212 [.p p,.p (.int .i64 lv)])) K Q=K (put dst (.p (.bool (fitsB es lv))) t) h d r:=callW_ret ext212 (cs_p (f:=212) (ps:=[p,.int .i64 lv]) rfl (fits212 ho H hl lv))
end
structure Frd where
  v:Int
  p:PV
  l:List Int
def Frd.cs(f:Frd):List PV:=[.int .i64 f.v,f.p]
def Frd.V(f:Frd):PV:=.agg f.cs
def Frd.c(f:Frd):Ob:=.cells 375 (f.cs.map .p)
def Frd.z:Frd:=⟨0,.nils,[]⟩
def Frd.ok(f:Frd):Prop:=SlQ 1 f.p (ints f.l)∧f.l.length<9223372036854775808
structure Pg where
  (kd no vr tr lv:Int)
  top:Bool
  ep:PV
  nx:Int
  dt:List UInt8
  fp:PV
  es:List Ent
  fs:List Frd
def Pg.cs(g:Pg):List PV:=[.int .i64 g.kd,.int .i64 g.no,.int .i64 g.vr,.int .i64 g.tr,.int .i64 g.lv,.bool g.top,g.ep,.int .i64 g.nx,.str g.dt,g.fp]
def Pg.V(g:Pg):PV:=.agg g.cs
def Pg.c(g:Pg):Ob:=.cells 62 (g.cs.map .p)
structure Pg.ok (g:Pg):Prop where
  he:SlQ 22 g.ep (g.es.map Ent.V)
  hf:SlQ 2 g.fp (g.fs.map Frd.V)
  hF:∀ f∈g.fs,f.ok
  le:g.es.length<1000000000
  lf:g.fs.length<1000000000
  ld:g.dt.length<1000000000
section
variable {f:Frd} {g:Pg} {h l:List Ob} {i:Nat}
theorem zfrd:zero? cx 375=some Frd.z.V:=by kernel_rfl
theorem zfrd_c:Frd.z.V.cells.map AV.p=Frd.z.cs.map AV.p:=(rfl)
theorem fe_st:store? cx (h++[.cells 375 (Frd.z.cs.map .p)]) 375 (.ptr h.length 0) (.p f.V)=.ws undefA h.length f.c:=
  store_whole s375 (hget_end _ _) (show _=some (f.cs.map AV.p)from rfl) rfl rfl
theorem fe_0:load? cx (h++[f.c]) 3 (.ptr h.length 0)=some (.p (.int .i64 f.v)):=load_one a3 (hget_end _ _) rfl
theorem fe_1:load? cx (h++[f.c]) 23 (.ptr h.length 1)=some (.p f.p):=load_one a23 (hget_end _ _) rfl
theorem fe_f0:fieldAddr? cx 375 (.ptr i 0) 0=some (.ptr i 0):=fieldAddr_ptr (m:=0) f375_0 s3
theorem fe_f1:fieldAddr? cx 375 (.ptr i 0) 1=some (.ptr i 1):=fieldAddr_ptr (m:=0) f375_1 s23
theorem fe_c:load? cx h 375 (.cptr f.V)=some (.p f.V):=(eok_agg (c:=cx) (cs:=f.cs) a375 s375 rfl).1
theorem fe_k:fieldAddr? cx 375 (.cptr f.V) 0=some (.cptr (.int .i64 f.v)):=by kernel_rfl
theorem fe_k1:fieldAddr? cx 375 (.cptr f.V) 1=some (.cptr f.p):=by kernel_rfl
theorem pg_box:boxW l 62 (.p g.V)=.wn (.ptr l.length 0) g.c:=(rfl)
theorem pg_f0:fieldAddr? cx 62 (.ptr i 0) 0=some (.ptr i 0):=fieldAddr_ptr (m:=0) f62_0 s3
theorem pg_f1:fieldAddr? cx 62 (.ptr i 0) 1=some (.ptr i 1):=fieldAddr_ptr (m:=0) f62_1 s3
theorem pg_f2:fieldAddr? cx 62 (.ptr i 0) 2=some (.ptr i 2):=fieldAddr_ptr (m:=0) f62_2 s3
theorem pg_f3:fieldAddr? cx 62 (.ptr i 0) 3=some (.ptr i 3):=fieldAddr_ptr (m:=0) f62_3 s3
theorem pg_f4:fieldAddr? cx 62 (.ptr i 0) 4=some (.ptr i 4):=fieldAddr_ptr (m:=0) f62_4 s3
theorem pg_f5:fieldAddr? cx 62 (.ptr i 0) 5=some (.ptr i 5):=fieldAddr_ptr (m:=0) f62_5 s4
theorem pg_f6:fieldAddr? cx 62 (.ptr i 0) 6=some (.ptr i 6):=fieldAddr_ptr (m:=0) f62_6 s59
theorem pg_f7:fieldAddr? cx 62 (.ptr i 0) 7=some (.ptr i 7):=fieldAddr_ptr (m:=0) f62_7 s3
theorem pg_f8:fieldAddr? cx 62 (.ptr i 0) 8=some (.ptr i 8):=fieldAddr_ptr (m:=0) f62_8 s9
theorem pg_f9:fieldAddr? cx 62 (.ptr i 0) 9=some (.ptr i 9):=fieldAddr_ptr (m:=0) f62_9 s60
theorem pg_w:load? cx (g.c::l) 62 (.ptr 0 0)=some (.p g.V):=(load_whole a62 s62 rfl rfl).trans rfl
theorem pg_0:load? cx (g.c::l) 3 (.ptr 0 0)=some (.p (.int .i64 g.kd)):=load_one a3 rfl rfl
theorem pg_1:load? cx (g.c::l) 3 (.ptr 0 1)=some (.p (.int .i64 g.no)):=load_one a3 rfl rfl
theorem pg_2:load? cx (g.c::l) 3 (.ptr 0 2)=some (.p (.int .i64 g.vr)):=load_one a3 rfl rfl
theorem pg_3:load? cx (g.c::l) 3 (.ptr 0 3)=some (.p (.int .i64 g.tr)):=load_one a3 rfl rfl
theorem pg_4:load? cx (g.c::l) 3 (.ptr 0 4)=some (.p (.int .i64 g.lv)):=load_one a3 rfl rfl
theorem pg_5:load? cx (g.c::l) 4 (.ptr 0 5)=some (.p (.bool g.top)):=load_one a4 rfl rfl
theorem pg_6:load? cx (g.c::l) 59 (.ptr 0 6)=some (.p g.ep):=load_one a59 rfl rfl
theorem pg_7:load? cx (g.c::l) 3 (.ptr 0 7)=some (.p (.int .i64 g.nx)):=load_one a3 rfl rfl
theorem pg_8:load? cx (g.c::l) 9 (.ptr 0 8)=some (.p (.str g.dt)):=load_one a9 rfl rfl
theorem pg_9:load? cx (g.c::l) 60 (.ptr 0 9)=some (.p g.fp):=load_one a60 rfl rfl
end
def rwPg:=And.intro @pg_box <| And.intro @pg_f0 <| And.intro @pg_f1 <| And.intro @pg_f2 <| And.intro @pg_f3 <| And.intro @pg_f4 <| And.intro @pg_f5 <| And.intro @pg_f6 <| And.intro @pg_f7 <| And.intro @pg_f8 <| And.intro @pg_f9 <| And.intro @pg_w <| And.intro @pg_0 <| And.intro @pg_1 <| And.intro @pg_2 <| And.intro @pg_3 <| And.intro @pg_4 <| And.intro @pg_5 <| And.intro @pg_6 <| And.intro @pg_7 <| And.intro @pg_8 @pg_9
theorem i_at{p:PV} {l:List Int} {k:Nat} (H:SlQ 1 p (ints l)) (hk:k<l.length):indexAddr? cx 23 (.p p) (.p (.int .i64 (k:Int)))=some (.cptr (.int .i64 (l.getD k 0))):=by
  rw[H.at (sz:=0) u23 s3 (by rw[ints_length];exact hk),ints_getD hk]
theorem i_len{p:PV} {l:List Int} (H:SlQ 1 p (ints l)) (h:List Ob):lenW cx h 23 (.p p)=.w (.p (.int .i64 (l.length:Int))):=by
  rw[H.len u23 h,ints_length]
theorem frd_at{p:PV} {fs:List Frd} {k:Nat} (H:SlQ 2 p (fs.map Frd.V)) (hk:k<fs.length):indexAddr? cx 60 (.p p) (.p (.int .i64 (k:Int)))=some (.cptr (fs.getD k Frd.z).V):=by
  rw[H.at (sz:=1) u60 s375 (by rw[List.length_map];exact hk)]
  simp [List.getD,hk]
theorem frd_len{p:PV} {fs:List Frd} (H:SlQ 2 p (fs.map Frd.V)) (h:List Ob):lenW cx h 60 (.p p)=.w (.p (.int .i64 (fs.length:Int))):=by
  rw[H.len u60 h,List.length_map]
theorem frd_mem{fs:List Frd} {k:Nat} (hk:k<fs.length):fs.getD k Frd.z∈fs:=by
  rw[List.getD,List.getElem?_eq_getElem hk];exact List.getElem_mem hk
theorem ld_q{p:PV} {l:List Int} (H:SlQ 1 p (ints l)) (h:List Ob):load? cx h 23 (.cptr p)=some (.p p):=H.eok.1
def nosP(l:List Int) (k:Nat):Prop:=isNo (l.getD k 0)∧(0<k→l.getD (k-1) 0<l.getD k 0)
def frdP(fs:List Frd) (i:Nat):Prop:=inR (fs.getD i Frd.z).v 0 1099511627776∧(fs.getD i Frd.z).l.length ≠ 0∧(0<i→(fs.getD (i-1) Frd.z).v<(fs.getD i Frd.z).v)∧∀ k,k<(fs.getD i Frd.z).l.length→nosP (fs.getD i Frd.z).l k
def FreedP(fs:List Frd):Prop:=∀ i,i<fs.length→frdP fs i
open Classical in
noncomputable def freedB(fs:List Frd):Bool:=decide (FreedP fs)
theorem freedB_f{fs} (h:¬FreedP fs):false=freedB fs:=by unfold freedB;simp [h]
theorem freedB_t{fs} (h:FreedP fs):true=freedB fs:=by unfold freedB;simp [h]
def plainB(g:Pg):Bool:=decide (g.tr=0)&&(decide (g.lv=0)&&(!g.top&&decide ((g.es.length:Int)=0)))
section
variable {o:Orc} (ho:FreeT o)
include ho
theorem call214{n:Int} {h dst t d r K Q}:callW cx o dst t h d r (some (.fn 214 [.p (.int .i64 n)])) K Q=K (put dst (.p (.bool (decide (n=0∨isNo n)))) t) h d r:=callW_ret ext214 (cs_p (f:=214) (ps:=[.int .i64 n]) rfl (linked214 ho n))
theorem plain213{g:Pg} (I:g.ok):Ct cx o (.fn 213 [.p g.V]) [] (fun e _=>e=.ret (.p (.bool (plainB g)))):=by
  refine ct213 (ho _ _ _ (by decide) (by decide)) rfl ?_
  have hlen:∀ hh:List Ob,lenW cx hh 59 (.p g.ep)=_:=fun hh=>ent_len I.he hh
  simp only[sc213r0,sc213r1,sc213,↓rwS,↓rwX,rwZ,rwT,rwG,Nat.reduceEqDiff,Nat.reduceAdd,reduceCtorEq,Nat.reduceLT,rwPg,hlen,List.nil_append,List.length_nil, *]
  repeat' (refine spl (fun hb=>?_) (fun hb=>?_)<;>try simp only[sc213r0,sc213r1,sc213,↓rwS,↓rwX,rwZ,rwT,rwG,Nat.reduceEqDiff,Nat.reduceAdd,reduceCtorEq,Nat.reduceLT,rwPg,hlen,List.nil_append,List.length_nil, *])
  all_goals(refine ret_bool ?_;unfold plainB;grind)
theorem call213{g:Pg} (I:g.ok) {h dst t d r K Q}:callW cx o dst t h d r (some (.fn 213 [.p g.V])) K Q=K (put dst (.p (.bool (plainB g))) t) h d r:=callW_ret ext213 (cs_p (f:=213) (ps:=[g.V]) rfl (plain213 ho I))
theorem freed_in {f : Frd} (hf : f.ok) {m : List Ob} {Q : Post} {t : Tm} {x0 x7 x8 x9 : AV} (t0 : t.get 0 = x0) (t7 : t.get 7 = x7) (t8 : t.get 8 = x8) (t9 : t.get 9 = x9) (t4 : t.get 4 = .ptr m.length 0) (t40 : t.get 40 = .p f.p) (t41 : t.get 41 = .p (.int .i64 (f.l.length : Int))) (t42 : t.get 42 = .p (.int .i64 0))
    (hx:∀ t':Tm,t'.get 0=x0→t'.get 7=x7→t'.get 8=x8→t'.get 9=x9→(∀ k,k<f.l.length→nosP f.l k)→Q (.exit 2) t' (m++[f.c]) [] none)
    (hr:∀ t':Tm,t'.get 2=.p (.bool false)→¬(∀ k,k<f.l.length→nosP f.l k)→Q .ret t' (m++[f.c]) [] none):xC cx o none (.loop sc215l12) Q t (m++[f.c]) [] none:=by
  have hil:∀ hh:List Ob,lenW cx hh 23 (.p f.p)=_:=fun hh=>i_len hf.1 hh
  refine xC_loop (fun n t h' d r=>∃ i:Nat,n=f.l.length-i∧i≤f.l.length∧(∀ k,k<i→nosP f.l k)∧m++[f.c]=h'∧d=[]∧r=none∧t.get 0=x0∧t.get 7=x7∧t.get 8=x8∧t.get 9=x9∧t.get 4=.ptr m.length 0∧t.get 40=.p f.p∧t.get 41=.p (.int .i64 (f.l.length:Int))∧t.get 42=.p (.int .i64 (i:Int))) f.l.length ?_ ?_
  · exact⟨0,rfl,by omega,fun k hk=>by omega,rfl,rfl,rfl,t0,t7,t8,t9,t4,t40,t41,t42⟩
  · rintro n t h' d r ⟨i,rfl,hi,hok,rfl,rfl,rfl,t0,t7,t8,t9,t4,t40,t41,t42⟩
    have hlb:=hf.2
    by_cases hlt:i<f.l.length
    · have w1:=one63 (show i+1<9223372036854775808 by omega)
      have e1:decide ((i:Int)<(f.l.length:Int))=true:=decide_eq_true (by omega)
      have ai:=i_at hf.1 hlt
      by_cases h0:0<i
      · have e2:decide (0<(i:Int))=true:=decide_eq_true (by omega)
        have w2:IntKind.wrap .i64 ((i:Int)-1)=((i-1:Nat):Int):=by rw[wrap64_id (by omega) (by omega)];omega
        have aj:=i_at (k:=i-1) hf.1 (by omega)
        simp only[sc215r0,sc215r1,sc215r2,sc215r3,sc215r4,sc215d4_x,sc215r5,sc215r6,sc215r7,sc215r8,sc215r9,sc215r10,sc215r11,sc215l12,sc215r13,sc215l14,sc215r15,sc215,↓rwS,↓rwX,rwZ,rwT,rwG,Nat.reduceEqDiff,Nat.reduceAdd,reduceCtorEq,Nat.reduceLT,true_and,t0,t7,t8,t9,t4,t40,t41,t42,e1,e2,ai,aj,w1,w2,fe_1,fe_f1,ld_ci,call210 ho, *]
        repeat' (refine spl (fun hb=>?_) (fun hb=>?_)<;>try simp only[sc215r0,sc215r1,sc215r2,sc215r3,sc215r4,sc215d4_x,sc215r5,sc215r6,sc215r7,sc215r8,sc215r9,sc215r10,sc215r11,sc215l12,sc215r13,sc215l14,sc215r15,sc215,↓rwS,↓rwX,rwZ,rwT,rwG,Nat.reduceEqDiff,Nat.reduceAdd,reduceCtorEq,Nat.reduceLT,true_and,t0,t7,t8,t9,t4,t40,t41,t42,e1,e2,ai,aj,w1,w2,fe_1,fe_f1,ld_ci,call210 ho, *])
        all_goals first
          | (refine hr _ (by simp only[Tm.get_set,Nat.reduceEqDiff,if_true,if_false]) (fun q=>?_);have q:=q i hlt;unfold nosP at q;grind)
          | (refine ⟨_, ?_, i + 1, rfl, by omega, fun k hk => ?_, ?_⟩
             · omega
             · by_cases qk:k=i
               · subst qk;unfold nosP;grind
               · exact hok k (by omega)
             · first|rfl|exact trivial|exact⟨rfl,rfl⟩|(simp only[true_and,and_true];done))
      · have e2:decide (0<(i:Int))=false:=decide_eq_false (by omega)
        simp only[sc215r0,sc215r1,sc215r2,sc215r3,sc215r4,sc215d4_x,sc215r5,sc215r6,sc215r7,sc215r8,sc215r9,sc215r10,sc215r11,sc215l12,sc215r13,sc215l14,sc215r15,sc215,↓rwS,↓rwX,rwZ,rwT,rwG,Nat.reduceEqDiff,Nat.reduceAdd,reduceCtorEq,Nat.reduceLT,true_and,t0,t7,t8,t9,t4,t40,t41,t42,e1,e2,ai,w1,ld_ci,call210 ho, *]
        repeat' (refine spl (fun hb=>?_) (fun hb=>?_)<;>try simp only[sc215r0,sc215r1,sc215r2,sc215r3,sc215r4,sc215d4_x,sc215r5,sc215r6,sc215r7,sc215r8,sc215r9,sc215r10,sc215r11,sc215l12,sc215r13,sc215l14,sc215r15,sc215,↓rwS,↓rwX,rwZ,rwT,rwG,Nat.reduceEqDiff,Nat.reduceAdd,reduceCtorEq,Nat.reduceLT,true_and,t0,t7,t8,t9,t4,t40,t41,t42,e1,e2,ai,w1,ld_ci,call210 ho, *])
        all_goals first
          | (refine hr _ (by simp only[Tm.get_set,Nat.reduceEqDiff,if_true,if_false]) (fun q=>?_);have q:=q i hlt;unfold nosP at q;grind)
          | (refine ⟨_, ?_, i + 1, rfl, by omega, fun k hk => ?_, ?_⟩
             · omega
             · by_cases qk:k=i
               · subst qk;unfold nosP;grind
               · exact hok k (by omega)
             · first|rfl|exact trivial|exact⟨rfl,rfl⟩|(simp only[true_and,and_true];done))
    · have e1:decide ((i:Int)<(f.l.length:Int))=false:=decide_eq_false (by omega)
      simp only[sc215r0,sc215r1,sc215r2,sc215r3,sc215r4,sc215d4_x,sc215r5,sc215r6,sc215r7,sc215r8,sc215r9,sc215r10,sc215r11,sc215l12,sc215r13,sc215l14,sc215r15,sc215,↓rwS,↓rwX,rwZ,rwT,rwG,Nat.reduceEqDiff,Nat.reduceAdd,reduceCtorEq,Nat.reduceLT,t0,t7,t8,t9,t4,t40,t41,t42,e1]
      refine hx _ ?_ ?_ ?_ ?_ (fun k hk=>hok k (by omega))
      all_goals simp only[Tm.get_set,Nat.reduceEqDiff,if_true,if_false,t0,t7,t8,t9]
set_option maxHeartbeats 4000000 in
theorem freed215{p:PV} {fs:List Frd} (H:SlQ 2 p (fs.map Frd.V)) (hF:∀ f∈fs,f.ok) (hl:fs.length<1000000000):Ct cx o (.fn 215 [.p p]) [] (fun e _=>e=.ret (.p (.bool (freedB fs)))):=by
  refine ct215 (ho _ _ _ (by decide) (by decide)) rfl ?_
  have hlen:∀ hh:List Ob,lenW cx hh 60 (.p p)=_:=fun hh=>frd_len H hh
  simp only[sc215r0,sc215r1,sc215r2,sc215r3,sc215r4,sc215d4_x,sc215r5,sc215r6,sc215r7,sc215r8,sc215r9,sc215r10,sc215r11,sc215r13,sc215r15,sc215,↓rwS,↓rwX,rwZ,rwT,rwG,Nat.reduceEqDiff,Nat.reduceAdd,reduceCtorEq,Nat.reduceLT,hlen]
  refine xC_loop (fun n t h' d r=>∃ i:Nat,n=fs.length-i∧i≤fs.length∧(∀ k,k<i→frdP fs k)∧d=[]∧r=none∧t.get 0=.p p∧t.get 7=.p p∧t.get 8=.p (.int .i64 (fs.length:Int))∧t.get 9=.p (.int .i64 (i:Int))) fs.length ?_ ?_
  · refine⟨0,rfl,by omega,fun k hk=>by omega,rfl,rfl,?_⟩
    simp only[↓rwA,rwB,rwG,Nat.reduceEqDiff,Nat.reduceAdd,reduceCtorEq,Nat.reduceLT,true_and]
    first|rfl|exact trivial
  · rintro n t h' d r ⟨i,rfl,hi,hok,rfl,rfl,t0,t7,t8,t9⟩
    have w1:=one63 (show i+1<9223372036854775808 by omega)
    by_cases hlt:i<fs.length
    · have e1:decide ((i:Int)<(fs.length:Int))=true:=decide_eq_true (by omega)
      have ai:=frd_at H hlt
      have hfo:=hF _ (frd_mem hlt)
      have hil:∀ hh:List Ob,lenW cx hh 23 (.p (fs.getD i Frd.z).p)=_:=fun hh=>i_len hfo.1 hh
      have hz:∀ hb:decide (((fs.getD i Frd.z).l.length:Int)=0)=false,(fs.getD i Frd.z).l.length ≠ 0:=fun hb q=>by rw[q]at hb;simp at hb
      by_cases h0:0<i
      · have e2:decide (0<(i:Int))=true:=decide_eq_true (by omega)
        have w2:=pred64 (show i<4611686018427387904 by omega) h0
        have aj:=frd_at (k:=i-1) H (by omega)
        simp only[sc215r0,sc215r1,sc215r2,sc215r3,sc215r4,sc215d4_x,sc215r5,sc215r6,sc215r7,sc215r8,sc215r9,sc215r10,sc215r11,sc215r13,sc215r15,sc215,↓rwS,↓rwX,rwZ,rwT,rwG,Nat.reduceEqDiff,Nat.reduceAdd,reduceCtorEq,Nat.reduceLT,sc215l14,↓rwC,rwD,rwI,Nat.reduceSub,Nat.reduceLeDiff,LW_bt,LW_bf,true_and,t0,t7,t8,t9,e1,e2,ai,aj,w1,w2,fe_c,fe_k,ld_ci,zfrd,zfrd_c,fe_st,fe_0,fe_1,fe_f0,fe_f1,hset_end,call211 ho,hil, *]
        repeat' (refine spl (fun hb=>?_) (fun hb=>?_)<;>try simp only[sc215r0,sc215r1,sc215r2,sc215r3,sc215r4,sc215d4_x,sc215r5,sc215r6,sc215r7,sc215r8,sc215r9,sc215r10,sc215r11,sc215r13,sc215r15,sc215,↓rwS,↓rwX,rwZ,rwT,rwG,Nat.reduceEqDiff,Nat.reduceAdd,reduceCtorEq,Nat.reduceLT,sc215l14,↓rwC,rwD,rwI,Nat.reduceSub,Nat.reduceLeDiff,LW_bt,LW_bf,true_and,t0,t7,t8,t9,e1,e2,ai,aj,w1,w2,fe_c,fe_k,ld_ci,zfrd,zfrd_c,fe_st,fe_0,fe_1,fe_f0,fe_f1,hset_end,call211 ho,hil, *])
        all_goals first
          | (refine ret_bool (freedB_f fun q=>?_);have q:=q i hlt;unfold frdP at q;grind)
          | (refine freed_in ho hfo (x0 := .p p) (x7 := .p p) (x8 := .p (.int .i64 (fs.length : Int))) (x9 := .p (.int .i64 (i : Int))) ?_ ?_ ?_ ?_ ?_ ?_ ?_ ?_ (fun t' y0 y7 y8 y9 hin => ?_) (fun t' y2 hin => ?_)
             all_goals first
              | (simp only [↓rwS, ↓rwX, rwZ, rwT, rwG, Nat.reduceEqDiff, Nat.reduceAdd, reduceCtorEq, Nat.reduceLT, w1, y0, y7, y8, y9, blockP_exit, if_true, sc215r13, true_and]
                 refine⟨_,?_,i+1,rfl,by omega,fun k hk=>?_,?_⟩
                 · omega
                 · by_cases qk:k=i
                   · subst qk;unfold frdP;grind
                   · exact hok k (by omega)
                 · first|rfl|exact trivial|exact⟨rfl,rfl⟩)
              | (simp only[↓rwS,↓rwX,rwZ,rwT,rwG,Nat.reduceEqDiff,Nat.reduceAdd,reduceCtorEq,Nat.reduceLT,y2];refine ret_bool (freedB_f fun q=>?_);have q:=q i hlt;unfold frdP at q;grind)
              | (simp only[Tm.get_set,Nat.reduceEqDiff,if_true,if_false,t0,t7,t8,t9];done))
      · have e2:decide (0<(i:Int))=false:=decide_eq_false (by omega)
        simp only[sc215r0,sc215r1,sc215r2,sc215r3,sc215r4,sc215d4_x,sc215r5,sc215r6,sc215r7,sc215r8,sc215r9,sc215r10,sc215r11,sc215r13,sc215r15,sc215,↓rwS,↓rwX,rwZ,rwT,rwG,Nat.reduceEqDiff,Nat.reduceAdd,reduceCtorEq,Nat.reduceLT,sc215l14,↓rwC,rwD,rwI,Nat.reduceSub,Nat.reduceLeDiff,LW_bt,LW_bf,true_and,t0,t7,t8,t9,e1,e2,ai,w1,fe_c,fe_k,ld_ci,zfrd,zfrd_c,fe_st,fe_0,fe_1,fe_f0,fe_f1,hset_end,call211 ho,hil, *]
        repeat' (refine spl (fun hb=>?_) (fun hb=>?_)<;>try simp only[sc215r0,sc215r1,sc215r2,sc215r3,sc215r4,sc215d4_x,sc215r5,sc215r6,sc215r7,sc215r8,sc215r9,sc215r10,sc215r11,sc215r13,sc215r15,sc215,↓rwS,↓rwX,rwZ,rwT,rwG,Nat.reduceEqDiff,Nat.reduceAdd,reduceCtorEq,Nat.reduceLT,sc215l14,↓rwC,rwD,rwI,Nat.reduceSub,Nat.reduceLeDiff,LW_bt,LW_bf,true_and,t0,t7,t8,t9,e1,e2,ai,w1,fe_c,fe_k,ld_ci,zfrd,zfrd_c,fe_st,fe_0,fe_1,fe_f0,fe_f1,hset_end,call211 ho,hil, *])
        all_goals first
          | (refine ret_bool (freedB_f fun q=>?_);have q:=q i hlt;unfold frdP at q;grind)
          | (refine freed_in ho hfo (x0 := .p p) (x7 := .p p) (x8 := .p (.int .i64 (fs.length : Int))) (x9 := .p (.int .i64 (i : Int))) ?_ ?_ ?_ ?_ ?_ ?_ ?_ ?_ (fun t' y0 y7 y8 y9 hin => ?_) (fun t' y2 hin => ?_)
             all_goals first
              | (simp only [↓rwS, ↓rwX, rwZ, rwT, rwG, Nat.reduceEqDiff, Nat.reduceAdd, reduceCtorEq, Nat.reduceLT, w1, y0, y7, y8, y9, blockP_exit, if_true, sc215r13, true_and]
                 refine⟨_,?_,i+1,rfl,by omega,fun k hk=>?_,?_⟩
                 · omega
                 · by_cases qk:k=i
                   · subst qk;unfold frdP;grind
                   · exact hok k (by omega)
                 · first|rfl|exact trivial|exact⟨rfl,rfl⟩)
              | (simp only[↓rwS,↓rwX,rwZ,rwT,rwG,Nat.reduceEqDiff,Nat.reduceAdd,reduceCtorEq,Nat.reduceLT,y2];refine ret_bool (freedB_f fun q=>?_);have q:=q i hlt;unfold frdP at q;grind)
              | (simp only[Tm.get_set,Nat.reduceEqDiff,if_true,if_false,t0,t7,t8,t9];done))
    · have e1:decide ((i:Int)<(fs.length:Int))=false:=decide_eq_false (by omega)
      simp only[sc215r0,sc215r1,sc215r2,sc215r3,sc215r4,sc215d4_x,sc215r5,sc215r6,sc215r7,sc215r8,sc215r9,sc215r10,sc215r11,sc215r13,sc215r15,sc215,sc215l14,↓rwS,↓rwX,rwZ,rwT,rwG,Nat.reduceEqDiff,Nat.reduceAdd,reduceCtorEq,Nat.reduceLT,t0,t7,t8,t9,e1]
      exact ret_bool (freedB_t fun k hk=>hok k (by omega))
end
theorem nos_len{l:List Int} (h:∀ k,k<l.length→nosP l k):l.length≤4094:=by
 have key:∀ k,k<l.length→(2+k:Int)≤l.getD k 0:=by
  intro k
  induction k with
  |zero=>intro hk;have:=(h 0 hk).1;unfold isNo at this;omega
  |succ k ih=>
   intro hk
   have h1:=ih (by omega)
   have h2:=(h (k+1) hk).2 (by omega)
   rw[Nat.add_sub_cancel]at h2
   omega
 by_cases q:l.length=0
 ·omega
 ·have h1:=key (l.length-1) (by omega)
  have h2:=(h (l.length-1) (by omega)).1
  unfold isNo at h2
  omega
def lsum(fs:List Frd) (n:Nat):Int:=((fs.take n).map fun f=>8+4*(f.l.length:Int)).sum
theorem lsum_0{fs:List Frd}:lsum fs 0=0:=by unfold lsum;simp
theorem lsum_succ{fs:List Frd} {n:Nat} (h:n<fs.length):lsum fs (n+1)=lsum fs n+(8+4*((fs.getD n Frd.z).l.length:Int)):=by
 unfold lsum
 rw[List.take_succ_eq_append_getElem h,List.map_append,List.sum_append]
 simp [List.getD,h]
theorem lsum_le{fs:List Frd} (hF:FreedP fs):∀ {n:Nat},n≤fs.length→0≤lsum fs n∧lsum fs n≤20000*n:=by
 intro n
 induction n with
 |zero=>intro _;rw[lsum_0];simp
 |succ n ih=>
  intro h1
  have:=ih (by omega)
  have h3:=nos_len (hF n (by omega)).2.2.2
  rw[lsum_succ (by omega)]
  omega
theorem eql_b{q:Bool} {a b:Bool}:bin3 .eql cx 4 q (.p (.bool a)) (.p (.bool b))=.w (.p (.bool (a == b))):=by
 show(match eq? cx 4 q (.p (.bool a)) (.p (.bool b))with|some b=>resB b|none=>.no)=_
 have:eq? cx 4 q (.p (.bool a)) (.p (.bool b))=some (a == b):=by unfold eq?;rw[u4]
 rw[this];exact resB_eq _
open Classical in
noncomputable def kindB(g:Pg):Bool:=
 if g.kd=1∨g.kd=2 then decide (inR g.tr 0 255)&&(decide (decide (g.kd=1)=decide (g.lv=0))&&(fitsB g.es g.lv&&(decide (g.nx=0)&&(decide (g.dt=[])&&decide ((g.fs.length:Int)=0)))))
 else if g.kd=3 then plainB g&&(decide (g.nx=0∨isNo g.nx)&&(decide (inR g.dt.length 1 490)&&decide ((g.fs.length:Int)=0)))
 else if g.kd=4 then plainB g&&(decide (g.nx=0∨isNo g.nx)&&(decide (g.dt=[])&&(freedB g.fs&&decide (6+lsum g.fs g.fs.length≤496))))
 else false
noncomputable def Pg.isB(g:Pg):Bool:=decide (isNo g.no)&&(decide (inR g.vr 0 1099511627776)&&kindB g)
section
variable {o:Orc} (ho:FreeT o)
include ho
theorem call215{p:PV} {fs:List Frd} (H:SlQ 2 p (fs.map Frd.V)) (hF:∀ f∈fs,f.ok) (hl:fs.length<1000000000) {h dst t d r K Q}:callW cx o dst t h d r (some (.fn 215 [.p p])) K Q=K (put dst (.p (.bool (freedB fs))) t) h d r:=callW_ret ext215 (cs_p (f:=215) (ps:=[p]) rfl (freed215 ho H hF hl))
theorem listed216{p:PV} {fs:List Frd} (H:SlQ 2 p (fs.map Frd.V)) (hF:∀ f∈fs,f.ok) (hl:fs.length<1000000000) (hP:FreedP fs):Ct cx o (.fn 216 [.p p]) [] (fun e _=>e=.ret (.p (.int .i64 (6+lsum fs fs.length)))):=by
 refine ct216 (ho _ _ _ (by decide) (by decide)) rfl ?_
 have hlen:∀ hh:List Ob,lenW cx hh 60 (.p p)=_:=fun hh=>frd_len H hh
 simp only[sc216r0,sc216r1,sc216r2,sc216r3,sc216r4,sc216r5,sc216r6,sc216r8,sc216,↓rwS,↓rwX,rwZ,rwT,rwG,Nat.reduceEqDiff,Nat.reduceAdd,reduceCtorEq,Nat.reduceLT,hlen]
 refine xC_loop (fun n t h' d r=>∃ i:Nat,n=fs.length-i∧i≤fs.length∧d=[]∧r=none∧t.get 3=.p (.int .i64 (6+lsum fs i))∧t.get 6=.p p∧t.get 7=.p (.int .i64 (fs.length:Int))∧t.get 8=.p (.int .i64 (i:Int))) fs.length ?_ ?_
 ·refine⟨0,rfl,by omega,rfl,rfl,?_⟩
  simp only[↓rwA,rwB,rwG,Nat.reduceEqDiff,Nat.reduceAdd,reduceCtorEq,Nat.reduceLT,true_and,lsum_0,Int.add_zero]
  first|rfl|exact trivial
 ·rintro n t h' d r ⟨i,rfl,hi,rfl,rfl,t3,t6,t7,t8⟩
  have w1:=one63 (show i+1<9223372036854775808 by omega)
  by_cases hlt:i<fs.length
  ·have e1:decide ((i:Int)<(fs.length:Int))=true:=decide_eq_true (by omega)
   have ai:=frd_at H hlt
   have hfo:=hF _ (frd_mem hlt)
   have hil:∀ hh:List Ob,lenW cx hh 23 (.p (fs.getD i Frd.z).p)=_:=fun hh=>i_len hfo.1 hh
   have hle:=lsum_le hP (n:=i) (by omega)
   have hn:=nos_len (hP i hlt).2.2.2
   have a1:IntKind.wrap .i64 (4*((fs.getD i Frd.z).l.length:Int))=4*((fs.getD i Frd.z).l.length:Int):=wrap64_id (by omega) (by omega)
   have a2:IntKind.wrap .i64 (8+4*((fs.getD i Frd.z).l.length:Int))=8+4*((fs.getD i Frd.z).l.length:Int):=wrap64_id (by omega) (by omega)
   have a3:IntKind.wrap .i64 (6+lsum fs i+(8+4*((fs.getD i Frd.z).l.length:Int)))=6+lsum fs (i+1):=by
    rw[lsum_succ hlt,wrap64_id (by omega) (by omega)];omega
   simp only[sc216r0,sc216r1,sc216r2,sc216r3,sc216r4,sc216r5,sc216r6,sc216l7,sc216r8,sc216,↓rwC,rwD,rwI,Nat.reduceSub,Nat.reduceLeDiff,↓rwS,↓rwX,rwZ,rwT,rwG,Nat.reduceEqDiff,Nat.reduceAdd,reduceCtorEq,Nat.reduceLT,t3,t6,t7,t8,e1,ai,w1,fe_c,zfrd,zfrd_c,fe_st,fe_1,fe_f1,hset_end,hil,a1,a2,a3,true_and]
   refine⟨_,?_,i+1,rfl,by omega,?_⟩
   ·omega
   ·first|rfl|exact trivial|exact⟨rfl,rfl⟩
  ·have e1:decide ((i:Int)<(fs.length:Int))=false:=decide_eq_false (by omega)
   obtain rfl:i=fs.length:=by omega
   simp only[sc216r0,sc216r1,sc216r2,sc216r3,sc216r4,sc216r5,sc216r6,sc216l7,sc216r8,sc216,↓rwS,↓rwX,rwZ,rwT,rwG,Nat.reduceEqDiff,Nat.reduceAdd,reduceCtorEq,Nat.reduceLT,t3,t6,t7,t8,e1]
theorem call216{p:PV} {fs:List Frd} (H:SlQ 2 p (fs.map Frd.V)) (hF:∀ f∈fs,f.ok) (hl:fs.length<1000000000) (hP:freedB fs=true) {h dst t d r K Q}:callW cx o dst t h d r (some (.fn 216 [.p p])) K Q=K (put dst (.p (.int .i64 (6+lsum fs fs.length))) t) h d r:=callW_ret ext216 (cs_p (f:=216) (ps:=[p]) rfl (listed216 ho H hF hl (by simpa [freedB]using hP)))
set_option maxHeartbeats 8000000 in
theorem check138{g:Pg} (I:g.ok):Ct cx o (.fn 138 [.p g.V]) [] (fun e _=>e=.ret (.p (.int .i64 (if g.isB=true then 0 else 2)))):=by
 refine ct138 (ho _ _ _ (by decide) (by decide)) rfl ?_
 have hl9:∀ hh:List Ob,lenW cx hh 60 (.p g.fp)=_:=fun hh=>frd_len I.hf hh
 have hl8:∀ hh:List Ob,lenW cx hh 9 (.p (.str g.dt))=_:=fun hh=>len_str u9
 cases hfr:freedB g.fs with
 |true=>
  simp only[sc138r0,sc138r1,sc138r2,sc138r3,sc138r4,sc138r5,sc138r6,sc138r7,sc138r8,sc138r9,sc138r10,sc138r11,sc138r12,sc138r13,sc138r14,sc138,↓rwS,↓rwX,rwZ,rwT,rwG,Nat.reduceEqDiff,Nat.reduceAdd,reduceCtorEq,Nat.reduceLT,rwPg,call211 ho,call210 ho,call212 ho I.he I.le,call213 ho I,call214 ho,call215 ho I.hf I.hF I.lf,call216 ho I.hf I.hF I.lf hfr,hl9,hl8,eql_b,List.nil_append,List.length_nil,hfr, *]
  repeat' (refine spl (fun hb=>?_) (fun hb=>?_)<;>try simp only[sc138r0,sc138r1,sc138r2,sc138r3,sc138r4,sc138r5,sc138r6,sc138r7,sc138r8,sc138r9,sc138r10,sc138r11,sc138r12,sc138r13,sc138r14,sc138,↓rwS,↓rwX,rwZ,rwT,rwG,Nat.reduceEqDiff,Nat.reduceAdd,reduceCtorEq,Nat.reduceLT,rwPg,call211 ho,call210 ho,call212 ho I.he I.le,call213 ho I,call214 ho,call215 ho I.hf I.hF I.lf,call216 ho I.hf I.hF I.lf hfr,hl9,hl8,eql_b,List.nil_append,List.length_nil,hfr, *])
  all_goals(unfold Pg.isB kindB;congr 3;grind)
 |false=>
  simp only[sc138r0,sc138r1,sc138r2,sc138r3,sc138r4,sc138r5,sc138r6,sc138r7,sc138r8,sc138r9,sc138r10,sc138r11,sc138r12,sc138r13,sc138r14,sc138,↓rwS,↓rwX,rwZ,rwT,rwG,Nat.reduceEqDiff,Nat.reduceAdd,reduceCtorEq,Nat.reduceLT,rwPg,call211 ho,call210 ho,call212 ho I.he I.le,call213 ho I,call214 ho,call215 ho I.hf I.hF I.lf,hl9,hl8,eql_b,List.nil_append,List.length_nil,hfr, *]
  repeat' (refine spl (fun hb=>?_) (fun hb=>?_)<;>try simp only[sc138r0,sc138r1,sc138r2,sc138r3,sc138r4,sc138r5,sc138r6,sc138r7,sc138r8,sc138r9,sc138r10,sc138r11,sc138r12,sc138r13,sc138r14,sc138,↓rwS,↓rwX,rwZ,rwT,rwG,Nat.reduceEqDiff,Nat.reduceAdd,reduceCtorEq,Nat.reduceLT,rwPg,call211 ho,call210 ho,call212 ho I.he I.le,call213 ho I,call214 ho,call215 ho I.hf I.hF I.lf,hl9,hl8,eql_b,List.nil_append,List.length_nil,hfr, *])
  all_goals(unfold Pg.isB kindB;congr 3;grind)
theorem call138{g:Pg} (I:g.ok) {h dst t d r K Q}:callW cx o dst t h d r (some (.fn 138 [.p g.V])) K Q=K (put dst (.p (.int .i64 (if g.isB=true then 0 else 2))) t) h d r:=callW_ret ext138 (cs_p (f:=138) (ps:=[g.V]) rfl (check138 ho I))
end
end Go.Proofs

/- What is proved: contracts of the checks of pages, of the program and of the specification. Conditions: as before. -/
import Derived.Test.YtepjcfcfpjhpgaaGreatDoorSC06
set_option linter.all false
set_option maxRecDepth 100000
namespace Go.Proofs
open Go Go.Ai
theorem less_total:∀ (a b:List UInt8),(Op.bytesLess a b || decide (a=b)) = !Op.bytesLess b a:=by
  intro a
  induction a with
  |nil=>
    intro b
    cases b with
    |nil=>rfl
    |cons y b=>simp [Op.bytesLess]
  |cons x a ih=>
    intro b
    cases b with
    |nil=>simp [Op.bytesLess]
    |cons y b=>
      have h:=ih b
      unfold Op.bytesLess
      rcases Nat.lt_trichotomy x.toNat y.toNat with q|q|q
      · have h1:x<y:=q
        have h2:¬ y<x:=fun k=>by have:y.toNat<x.toNat:=k;omega
        have h3:¬ y=x:=fun k=>by subst k;omega
        simp [h1,h2,h3]
      · have h1:x=y:=UInt8.toNat_inj.1 q
        subst h1
        have h2:¬ x<x:=fun k=>by have:x.toNat<x.toNat:=k;omega
        simp [h2]
        simpa using h
      · have h1:¬ x<y:=fun k=>by have:x.toNat<y.toNat:=k;omega
        have h2:y<x:=q
        have h3:¬ x=y:=fun k=>by subst k;omega
        simp [h1,h2,h3]
open Classical in
noncomputable def Ent.bq(e:Ent):Bool:=decide (e.v=[]∧e.ov=0∧e.ln=0∧isNo e.ch∧inR e.ct 1 2147483647)
theorem Ent.bq_br(e:Ent):e.brB=(decide (e.k.length≤48)&&e.bq):=by
  unfold Ent.brB Ent.br Ent.bq;grind
section
variable {o:Orc} (ho:FreeT o)
include ho
theorem no283(n:Int):Ct cx o (.fn 283 [.p (.int .i64 n)]) [] (fun e _=>e=.ret (.p (.bool (decide (isNo n))))):=by
  refine ct283 (ho _ _ _ (by decide) (by decide)) rfl ?_
  simp only[sc283r0,sc283r1,sc283,↓rwS,↓rwX,rwZ,rwT,rwG,Nat.reduceEqDiff,Nat.reduceAdd,reduceCtorEq,Nat.reduceLT, *]
  repeat' (refine spl (fun hb=>?_) (fun hb=>?_)<;>try simp only[sc283r0,sc283r1,sc283,↓rwS,↓rwX,rwZ,rwT,rwG,Nat.reduceEqDiff,Nat.reduceAdd,reduceCtorEq,Nat.reduceLT, *])
  all_goals(refine ret_bool ?_;unfold isNo;grind)
theorem call283{n:Int} {h dst t d r K Q}:callW cx o dst t h d r (some (.fn 283 [.p (.int .i64 n)])) K Q=K (put dst (.p (.bool (decide (isNo n)))) t) h d r:=callW_ret ext283 (cs_p (f:=283) (ps:=[.int .i64 n]) rfl (no283 ho n))
theorem count363(n:Int):Ct cx o (.fn 363 [.p (.int .i64 n)]) [] (fun e _=>e=.ret (.p (.bool (decide (inR n 1 2147483647))))):=by
  refine ct363 (ho _ _ _ (by decide) (by decide)) rfl ?_
  simp only[sc363r0,sc363r1,sc363,↓rwS,↓rwX,rwZ,rwT,rwG,Nat.reduceEqDiff,Nat.reduceAdd,reduceCtorEq,Nat.reduceLT, *]
  repeat' (refine spl (fun hb=>?_) (fun hb=>?_)<;>try simp only[sc363r0,sc363r1,sc363,↓rwS,↓rwX,rwZ,rwT,rwG,Nat.reduceEqDiff,Nat.reduceAdd,reduceCtorEq,Nat.reduceLT, *])
  all_goals(refine ret_bool ?_;unfold inR;grind)
theorem call363{n:Int} {h dst t d r K Q}:callW cx o dst t h d r (some (.fn 363 [.p (.int .i64 n)])) K Q=K (put dst (.p (.bool (decide (inR n 1 2147483647)))) t) h d r:=callW_ret ext363 (cs_p (f:=363) (ps:=[.int .i64 n]) rfl (count363 ho n))
set_option maxHeartbeats 4000000 in
theorem leaf329(e:Ent):Ct cx o (.fn 329 [.p e.V]) [] (fun en _=>en=.ret (.p (.bool (!decide (e.form=0))))):=by
  refine ct329 (ho _ _ _ (by decide) (by decide)) rfl ?_
  have hb:build? cx 27 []=some (.p (.agg Dig.z.cs)):=by kernel_rfl
  simp only[sc329r0,sc329r1,sc329r2,sc329r3,sc329r4,sc329r5,sc329r6,sc329r7,sc329,↓rwS,↓rwX,rwZ,rwT,rwG,Nat.reduceEqDiff,Nat.reduceAdd,reduceCtorEq,Nat.reduceLT,call283 ho,call363 ho,rwEn,List.nil_append,List.cons_append,List.length_nil,List.length_cons,hb,eql_dig,len_str u9, *]
  repeat' (refine spl (fun hb=>?_) (fun hb=>?_)<;>try simp only[sc329r0,sc329r1,sc329r2,sc329r3,sc329r4,sc329r5,sc329r6,sc329r7,sc329,↓rwS,↓rwX,rwZ,rwT,rwG,Nat.reduceEqDiff,Nat.reduceAdd,reduceCtorEq,Nat.reduceLT,call283 ho,call363 ho,rwEn,List.nil_append,List.cons_append,List.length_nil,List.length_cons,hb,eql_dig,len_str u9, *])
  all_goals(unfold Ent.form Ent.keyed Ent.short Ent.long Ent.nest;congr 3;grind [inR,isNo])
theorem call329{e:Ent} {h dst t d r K Q}:callW cx o dst t h d r (some (.fn 329 [.p e.V])) K Q=K (put dst (.p (.bool (!decide (e.form=0)))) t) h d r:=callW_ret ext329 (cs_p (f:=329) (ps:=[e.V]) rfl (leaf329 ho e))
theorem bq330(e:Ent):Ct cx o (.fn 330 [.p e.V]) [] (fun en _=>en=.ret (.p (.bool e.bq))):=by
  refine ct330 (ho _ _ _ (by decide) (by decide)) rfl ?_
  simp only[sc330r0,sc330r1,sc330,↓rwS,↓rwX,rwZ,rwT,rwG,Nat.reduceEqDiff,Nat.reduceAdd,reduceCtorEq,Nat.reduceLT,call283 ho,call363 ho,rwEn,List.nil_append,List.cons_append,List.length_nil,List.length_cons, *]
  repeat' (refine spl (fun hb=>?_) (fun hb=>?_)<;>try simp only[sc330r0,sc330r1,sc330,↓rwS,↓rwX,rwZ,rwT,rwG,Nat.reduceEqDiff,Nat.reduceAdd,reduceCtorEq,Nat.reduceLT,call283 ho,call363 ho,rwEn,List.nil_append,List.cons_append,List.length_nil,List.length_cons, *])
  all_goals(refine ret_bool ?_;unfold Ent.bq;grind)
theorem call330{e:Ent} {h dst t d r K Q}:callW cx o dst t h d r (some (.fn 330 [.p e.V])) K Q=K (put dst (.p (.bool e.bq)) t) h d r:=callW_ret ext330 (cs_p (f:=330) (ps:=[e.V]) rfl (bq330 ho e))
set_option maxHeartbeats 4000000 in
theorem valid289{p:PV} {es:List Ent} (H:SlQ 22 p (es.map Ent.V)) (hl:es.length<1000000000) (lv:Int):Ct cx o (.fn 289 [.p p,.p (.int .i64 lv)]) [] (fun e _=>e=.ret (.p (.bool (validB es lv)))):=by
  refine ct289 (ho _ _ _ (by decide) (by decide)) rfl ?_
  have hlen:∀ hh:List Ob,lenW cx hh 59 (.p p)=_:=fun hh=>ent_len H hh
  by_cases hne:0<es.length
  · have at0:=ent_at0 H hne
    simp only[sc289r0,sc289r1,sc289r2,sc289r3,sc289r4,sc289r5,sc289r6,sc289r7,sc289r8,sc289r9,sc289d9_x,sc289r10,sc289r11,sc289r13,sc289,↓rwS,↓rwX,rwZ,rwT,rwG,Nat.reduceEqDiff,Nat.reduceAdd,reduceCtorEq,Nat.reduceLT,hlen,at0,ee_k,ee_kl, *]
    repeat' (refine spl (fun hb=>?_) (fun hb=>?_)<;>try simp only[sc289r0,sc289r1,sc289r2,sc289r3,sc289r4,sc289r5,sc289r6,sc289r7,sc289r8,sc289r9,sc289d9_x,sc289r10,sc289r11,sc289r13,sc289,↓rwS,↓rwX,rwZ,rwT,rwG,Nat.reduceEqDiff,Nat.reduceAdd,reduceCtorEq,Nat.reduceLT,hlen,at0,ee_k,ee_kl, *])
    all_goals first
      | (refine ret_bool (validB_f fun q=>?_);unfold ValidP inR at q;grind)
      |skip
    all_goals
      have hpre:inR lv 0 20∧(0<lv→2≤es.length∧(es.getD 0 Ent.z).k=[]):=by unfold inR;grind
      refine xC_loop (fun n t h' d r=>∃ i:Nat,n=es.length-i∧i≤es.length∧(∀ k,k<i→entP es lv k)∧d=[]∧r=none∧t.get 0=.p p∧t.get 1=.p (.int .i64 lv)∧t.get 5=.p (.int .i64 (i:Int))) es.length ?_ ?_
      · refine⟨0,rfl,by omega,fun k hk=>by omega,rfl,rfl,?_⟩
        simp only[↓rwA,rwB,rwG,Nat.reduceEqDiff,Nat.reduceAdd,reduceCtorEq,Nat.reduceLT,true_and]
        first|rfl|exact trivial
      · rintro n t h' d r ⟨i,rfl,hi,hok,rfl,rfl,t0,t1,t5⟩
        have w1:=one63 (show i+1<9223372036854775808 by omega)
        by_cases hlt:i<es.length
        · have e1:decide ((i:Int)<(es.length:Int))=true:=decide_eq_true (by omega)
          have ai:=ent_at H hlt
          have hb:=Ent.bq_br (es.getD i Ent.z)
          by_cases h0:0<i
          · have e2:decide (0<(i:Int))=true:=decide_eq_true (by omega)
            have w2:=pred64 (show i<4611686018427387904 by omega) h0
            have aj:=ent_at (k:=i-1) H (by omega)
            have hkz:((es.getD i Ent.z).k.length:Int)<1→(es.getD i Ent.z).k=[]:=fun q=>List.eq_nil_of_length_eq_zero (by omega)
            have ht:=less_total (es.getD i Ent.z).k (es.getD (i-1) Ent.z).k
            simp only[sc289r0,sc289r1,sc289r2,sc289r3,sc289r4,sc289r5,sc289r6,sc289r7,sc289r8,sc289r9,sc289d9_x,sc289r10,sc289r11,sc289l12,sc289r13,sc289,↓rwS,↓rwX,rwZ,rwT,rwG,Nat.reduceEqDiff,Nat.reduceAdd,reduceCtorEq,Nat.reduceLT,↓rwC,rwD,rwI,Nat.reduceSub,Nat.reduceLeDiff,LW_bt,LW_bf,true_and,hlen,t0,t1,t5,e1,e2,ai,aj,w1,w2,ee_c,ee_k,ee_kl,call329 ho,call330 ho,len_str u9, *]
            repeat' (refine spl (fun hb=>?_) (fun hb=>?_)<;>try simp only[sc289r0,sc289r1,sc289r2,sc289r3,sc289r4,sc289r5,sc289r6,sc289r7,sc289r8,sc289r9,sc289d9_x,sc289r10,sc289r11,sc289l12,sc289r13,sc289,↓rwS,↓rwX,rwZ,rwT,rwG,Nat.reduceEqDiff,Nat.reduceAdd,reduceCtorEq,Nat.reduceLT,↓rwC,rwD,rwI,Nat.reduceSub,Nat.reduceLeDiff,LW_bt,LW_bf,true_and,hlen,t0,t1,t5,e1,e2,ai,aj,w1,w2,ee_c,ee_k,ee_kl,call329 ho,call330 ho,len_str u9, *])
            all_goals first
              | (refine ret_bool (validB_f fun q=>?_);have q:=q.2.2.2 i hlt;unfold entP at q;grind)
              | (refine ⟨_, ?_, i + 1, rfl, by omega, fun k hk => ?_, ?_⟩
                 · omega
                 · by_cases qk:k=i
                   · subst qk;unfold entP;grind
                   · exact hok k (by omega)
                 · first|rfl|exact trivial|exact⟨rfl,rfl⟩)
          · have e2:decide (0<(i:Int))=false:=decide_eq_false (by omega)
            obtain rfl:i=0:=by omega
            simp only[sc289r0,sc289r1,sc289r2,sc289r3,sc289r4,sc289r5,sc289r6,sc289r7,sc289r8,sc289r9,sc289d9_x,sc289r10,sc289r11,sc289l12,sc289r13,sc289,↓rwS,↓rwX,rwZ,rwT,rwG,Nat.reduceEqDiff,Nat.reduceAdd,reduceCtorEq,Nat.reduceLT,↓rwC,rwD,rwI,Nat.reduceSub,Nat.reduceLeDiff,LW_bt,LW_bf,true_and,hlen,t0,t1,t5,e1,e2,ai,w1,ee_c,ee_k,ee_kl,call329 ho,call330 ho,len_str u9, *]
            repeat' (refine spl (fun hb=>?_) (fun hb=>?_)<;>try simp only[sc289r0,sc289r1,sc289r2,sc289r3,sc289r4,sc289r5,sc289r6,sc289r7,sc289r8,sc289r9,sc289d9_x,sc289r10,sc289r11,sc289l12,sc289r13,sc289,↓rwS,↓rwX,rwZ,rwT,rwG,Nat.reduceEqDiff,Nat.reduceAdd,reduceCtorEq,Nat.reduceLT,↓rwC,rwD,rwI,Nat.reduceSub,Nat.reduceLeDiff,LW_bt,LW_bf,true_and,hlen,t0,t1,t5,e1,e2,ai,w1,ee_c,ee_k,ee_kl,call329 ho,call330 ho,len_str u9, *])
            all_goals first
              | (refine ret_bool (validB_f fun q=>?_);have q:=q.2.2.2 0 hlt;unfold entP at q;grind)
              | (refine ⟨_, ?_, 1, rfl, by omega, fun k hk => ?_, ?_⟩
                 · omega
                 · obtain rfl:k=0:=by omega
                   unfold entP;grind
                 · first|rfl|exact trivial|exact⟨rfl,rfl⟩)
        · have e1:decide ((i:Int)<(es.length:Int))=false:=decide_eq_false (by omega)
          simp only[sc289r0,sc289r1,sc289r2,sc289r3,sc289r4,sc289r5,sc289r6,sc289r7,sc289r8,sc289r9,sc289d9_x,sc289r10,sc289r11,sc289l12,sc289r13,sc289,↓rwS,↓rwX,rwZ,rwT,rwG,Nat.reduceEqDiff,Nat.reduceAdd,reduceCtorEq,Nat.reduceLT,hlen,t0,t1,t5,e1]
          exact ret_bool (validB_t ⟨hpre.1,hne,hpre.2,fun k hk=>hok k (by omega)⟩)
  · have hlen0:∀ hh:List Ob,lenW cx hh 59 (.p p)=.w (.p (.int .i64 0)):=fun hh=>by rw[hlen];congr 3;omega
    have d1:decide ((0:Int)<1)=true:=by decide
    have d2:decide ((0:Int)<2)=true:=by decide
    simp only[sc289r0,sc289r1,sc289r2,sc289r3,sc289r4,sc289r5,sc289r6,sc289r7,sc289r8,sc289r9,sc289d9_x,sc289r10,sc289r11,sc289r13,sc289,↓rwS,↓rwX,rwZ,rwT,rwG,Nat.reduceEqDiff,Nat.reduceAdd,reduceCtorEq,Nat.reduceLT,hlen0,d1,d2, *]
    repeat' (refine spl (fun hb=>?_) (fun hb=>?_)<;>try simp only[sc289r0,sc289r1,sc289r2,sc289r3,sc289r4,sc289r5,sc289r6,sc289r7,sc289r8,sc289r9,sc289d9_x,sc289r10,sc289r11,sc289r13,sc289,↓rwS,↓rwX,rwZ,rwT,rwG,Nat.reduceEqDiff,Nat.reduceAdd,reduceCtorEq,Nat.reduceLT,hlen0,d1,d2, *])
    all_goals first
      | (refine ret_bool (validB_f fun q=>?_);unfold ValidP inR at q;grind)
      | (exfalso;grind)
end
theorem rem_i{c:Ctx} {ty:TypeId} {q:Bool} {a:Int}:bin3 .rem c ty q (.p (.int .i64 a)) (.p (.int .i64 256))=.w (.p (.int .i64 (a.tmod 256))):=by
 show cond (Nat.beq (knd .i64) (knd .i64)) (cond (eqI 256 0) .no (resI .i64 (a.tmod 256))) .no=_
 show resI .i64 (a.tmod 256)=_
 unfold resI
 rw[forceI_eq]
theorem quo_i{c:Ctx} {ty:TypeId} {q:Bool} {a:Int}:bin3 .quo c ty q (.p (.int .i64 a)) (.p (.int .i64 256))=.w (.p (.int .i64 (IntKind.wrap .i64 (a.tdiv 256)))):=by
 show cond (Nat.beq (knd .i64) (knd .i64)) (cond (eqI 256 0) .no (resI .i64 (wrapF .i64 (a.tdiv 256)))) .no=_
 show resI .i64 (wrapF .i64 (a.tdiv 256))=_
 unfold resI
 rw[forceI_eq,wrapF_eq]
def byteOf(n:Int):UInt8:=UInt8.ofNat (IntKind.wrap .u8 (n.tmod 256)).toNat
theorem byteOf_eq(n:Int):IntKind.wrap .u8 (n.tmod 256)=((byteOf n).toNat:Int):=by
 unfold byteOf
 rw[wrapU8_eq]
 have h1:0≤(n.tmod 256) % 256:=Int.emod_nonneg _ (by decide)
 have h2:(n.tmod 256) % 256<256:=Int.emod_lt_of_pos _ (by decide)
 have:((n.tmod 256) % 256).toNat<256:=by omega
 rw[UInt8.toNat_ofNat_of_lt' (by simpa using this)]
 omega
def numI(n:Int):Nat→Int×List UInt8
 |0=>(n,[])
 |k+1=>(IntKind.wrap .i64 ((numI n k).1.tdiv 256),byteOf (numI n k).1::(numI n k).2)
def numS(n:Int) (w:Nat):List UInt8:=(numI n w).2
theorem numI_len(n:Int) (k:Nat):(numI n k).2.length=k:=by
 induction k with
 |zero=>rfl
 |succ k ih=>unfold numI;simp [ih]
theorem numS_len(n:Int) (w:Nat):(numS n w).length=w:=numI_len n w
def numR(n:Int) (w k:Nat):List PV:=List.replicate (w-k) (.int .u8 0)++bytesPV (numI n k).2
theorem numR_len{n w k} (h:k≤w):(numR n w k).length=w:=by
 unfold numR bytesPV;simp [numI_len];omega
theorem numR_at{n:Int} {w k:Nat} (h:k<w):(numR n w k)[w-1-k]?=some (.int .u8 0):=by
 unfold numR
 rw[List.getElem?_append_left (by simp;omega),List.getElem?_replicate,if_pos (by omega)]
theorem numR_set{n:Int} {w k:Nat} (h:k<w):(numR n w k).set (w-1-k) (.int .u8 ((byteOf (numI n k).1).toNat:Int))=numR n w (k+1):=by
 unfold numR
 rw[List.set_append_left _ _ (by simp;omega)]
 have e1:(List.replicate (w-k) (PV.int .u8 0)).set (w-1-k) (.int .u8 ((byteOf (numI n k).1).toNat:Int))=List.replicate (w-(k+1)) (.int .u8 0)++[.int .u8 ((byteOf (numI n k).1).toNat:Int)]:=by
  have:w-k=(w-(k+1))+1:=by omega
  rw[this,List.replicate_succ']
  rw[List.set_append_right _ _ (by simp;omega)]
  simp
  rw[show w-1-k-(w-(k+1))=0 by omega];rfl
 rw[e1,List.append_assoc]
 rfl
theorem make_bytes{h:List Ob} {n:Nat} (hn:n<1000000):makeSlice? cx h 117 (.p (.int .i64 (n:Int))) (.p (.int .i64 (n:Int)))=.wn (.sl h.length 0 1 0 n) (.row 5 1 (List.replicate n (.int .u8 0)) true 0):=by
 obtain⟨i,hi,hs,hb⟩:∃ i,cx.info 5=some i∧i.size=1∧i.bytes=1:=by
  cases hq:cx.info 5 with
  |none=>
   have:(cx.info 5).isSome=true:=by kernel_rfl
   rw[hq]at this;cases this
  |some i=>
   have h1:(cx.info 5).map (fun i=>(i.size,i.bytes))=some (1,1):=by kernel_rfl
   rw[hq]at h1
   have:(i.size,i.bytes)=(1,1):=Option.some.inj h1
   exact⟨i,rfl,congrArg Prod.fst this,congrArg Prod.snd this⟩
 unfold makeSlice?
 simp only[u117]
 unfold onII onI
 simp only[hi,z5,a5]
 have:(!ltI (n:Int) 0 && !ltI (n:Int) (n:Int) && !ltI 140737488355328 (Int.mul i.bytes (n:Int))&&Nat.ble 1 i.bytes&&Nat.ble 1 i.size&&fitsA false i.size (.int .u8 0))=true:=by
  rw[hs,hb]
  simp only[ltI_eq]
  rw[decide_eq_false (show ¬((n:Int)<0) by omega),decide_eq_false (show ¬((n:Int)<(n:Int)) by omega),decide_eq_false (show ¬(140737488355328<Int.mul ((1:Nat):Int) (n:Int)) by show ¬(140737488355328<((1:Nat):Int)*(n:Int));omega)]
  rfl
 rw[this]
 simp only[cond,hs]
 unfold Ai.newRow
 simp only[forceN_eq,lnf_eq]
 rfl
section
variable {o:Orc} (ho:FreeT o)
include ho
theorem num147(n:Int) {w:Nat} (hw:w<1000):Ct cx o (.fn 147 [.p (.int .i64 n),.p (.int .i64 (w:Int))]) [] (fun e _=>e=.ret (.p (.str (numS n w)))):=by
 refine ct147 (ho _ _ _ (by decide) (by decide)) rfl ?_
 have mk:=make_bytes (h:=[]) (n:=w) (by omega)
 have w0:IntKind.wrap .i64 ((w:Int)-1)=(w:Int)-1:=wrap64_id (by omega) (by omega)
 simp only[sc147r0,sc147r1,sc147r2,sc147r3,sc147r4,sc147r5,sc147r6,sc147r8,sc147,↓rwS,↓rwX,rwZ,rwT,rwG,Nat.reduceEqDiff,Nat.reduceAdd,reduceCtorEq,Nat.reduceLT,mk,w0,List.nil_append,List.length_nil]
 refine xC_loop (fun m t h' d r=>∃ k:Nat,m=w-k∧k≤w ∧ [Ob.row 5 1 (numR n w k) true 0]=h'∧d=[]∧r=none∧t.get 0=.p (.int .i64 (numI n k).1)∧t.get 5=.sl 0 0 1 0 w∧t.get 6=.p (.int .i64 ((w:Int)-1-(k:Int)))) w ?_ ?_
 ·refine⟨0,rfl,by omega,by unfold numR numI bytesPV;simp,rfl,rfl,?_⟩
  simp only[↓rwA,rwB,rwG,Nat.reduceEqDiff,Nat.reduceAdd,reduceCtorEq,Nat.reduceLT,true_and]
  first|exact⟨rfl,by simp⟩|exact⟨rfl,rfl,by simp⟩
 ·rintro m t h' d r ⟨k,rfl,hk,rfl,rfl,rfl,t0,t5,t6⟩
  by_cases hlt:k<w
  ·have e1:decide (0≤((w-1-k:Nat):Int))=true:=decide_eq_true (by omega)
   have e2:(w:Int)-1-(k:Int)=((w-1-k:Nat):Int):=by omega
   have ix:indexAddr? cx 117 (.sl 0 0 1 0 w) (.p (.int .i64 ((w-1-k:Nat):Int)))=some (.el 0 0 1 (w-1-k) 0):=by
    have hS:Sl [Ob.row 5 1 (numR n w k) true 0] 1 (.sl 0 0 1 0 w) (numR n w k):=by
     refine .sl (xs:=numR n w k) rfl ?_
     unfold sub?
     rw[numR_len hk,Nat.zero_add,Nat.ble_eq_true_of_le (Nat.le_refl _),List.drop_zero,List.take_of_length_le (by rw[numR_len hk];exact Nat.le_refl _)];rfl
    rw[hS.at u117 s5 (by omega) (by rw[numR_len hk];omega),Int.toNat_natCast]
    show some (AV.el 0 0 1 (0+(w-1-k)) 0)=_
    rw[Nat.zero_add]
   have st:store? cx [Ob.row 5 1 (numR n w k) true 0] 5 (.el 0 0 1 (w-1-k) 0) (.p (.int .u8 ((byteOf (numI n k).1).toNat:Int)))=.wh undefA [Ob.row 5 1 (numR n w (k+1)) true 0]:=by
    rw[store_el s5 rfl (numR_at hlt) (fun l q=>by cases q) rfl rfl,numR_set hlt];rfl
   have cv:∀ hh,conv3 cx hh 3 5 (.p (.int .i64 ((numI n k).1.tmod 256)))=.w (.p (.int .u8 ((byteOf (numI n k).1).toNat:Int))):=fun hh=>by rw[conv_int u3 u5,byteOf_eq]
   have w1:IntKind.wrap .i64 (((w-1-k:Nat):Int)-1)=((w-1-k:Nat):Int)-1:=wrap64_id (by omega) (by omega)
   simp only[sc147r0,sc147r1,sc147r2,sc147r3,sc147r4,sc147r5,sc147r6,sc147l7,sc147r8,sc147,↓rwC,rwD,rwI,Nat.reduceSub,Nat.reduceLeDiff,↓rwS,↓rwX,rwZ,rwT,rwG,Nat.reduceEqDiff,Nat.reduceAdd,reduceCtorEq,Nat.reduceLT,t0,t5,t6,e1,e2,ix,st,cv,rem_i,quo_i,w1,true_and]
   refine⟨_,?_,k+1,rfl,by omega,rfl,?_⟩
   ·omega
   ·refine⟨rfl,?_⟩;congr 2;omega
  ·have e1:decide (0≤(w:Int)-1-(k:Int))=false:=decide_eq_false (by omega)
   obtain rfl:k=w:=by omega
   have cb:∀ hh:List Ob,hh=[Ob.row 5 1 (numR n k k) true 0]→conv3 cx hh 117 9 (.sl 0 0 1 0 k)=.w (.p (.str (numS n k))):=fun hh q=>by
    subst q
    refine conv_bytes u117 u5 u9 rfl (fun q h=>by cases h) rfl ?_
    have hl:=numR_len (n:=n) (w:=k) (k:=k) (Nat.le_refl _)
    have:=elems_sl1 (h:=[Ob.row 5 1 (numR n k k) true 0]) (i:=0) (g:=0) (e:=5) (sz:=1) (xs:=numR n k k) (ex:=true) rfl
    rw[hl]at this
    rw[this]
    unfold numR numS;simp
   simp only[sc147r0,sc147r1,sc147r2,sc147r3,sc147r4,sc147r5,sc147r6,sc147l7,sc147r8,sc147,↓rwS,↓rwX,rwZ,rwT,rwG,Nat.reduceEqDiff,Nat.reduceAdd,reduceCtorEq,Nat.reduceLT,t0,t5,t6,e1,cb _ rfl]
end
def Dig.bs(d:Dig):List UInt8:=[UInt8.ofNat d.d0.toNat,UInt8.ofNat d.d1.toNat,UInt8.ofNat d.d2.toNat,UInt8.ofNat d.d3.toNat,UInt8.ofNat d.d4.toNat,UInt8.ofNat d.d5.toNat,UInt8.ofNat d.d6.toNat,UInt8.ofNat d.d7.toNat,UInt8.ofNat d.d8.toNat,UInt8.ofNat d.d9.toNat,UInt8.ofNat d.e0.toNat,UInt8.ofNat d.e1.toNat,UInt8.ofNat d.e2.toNat,UInt8.ofNat d.e3.toNat,UInt8.ofNat d.e4.toNat,UInt8.ofNat d.e5.toNat]
theorem dig_box{d:Dig} {l:List Ob}:boxW l 27 (.p (.agg d.cs))=.wn (.ptr l.length 0) (.cells 27 (d.cs.map .p)):=(rfl)
theorem dig_sl{d:Dig}:sliceW cx [.cells 27 (d.cs.map .p)] 27 (.ptr 0 0) none none=.w (.asl 0 0 16 1):=by kernel_rfl
theorem dig_cv{d:Dig}:conv3 cx [.cells 27 (d.cs.map .p)] 117 9 (.asl 0 0 16 1)=.w (.p (.str d.bs)):=by kernel_rfl
open Classical in
noncomputable def Ent.rest(lv:Int) (e:Ent):List UInt8:=
 if 0<lv then numS e.ch 4++numS e.ct 4++e.sm.bs
 else if e.ch ≠ 0 then numS 65534 2++numS e.ch 4++numS e.ct 4++e.sm.bs
 else if e.ov ≠ 0 then numS 65535 2++numS e.ov 4++numS e.ln 2++e.sm.bs
 else numS e.v.length 2++e.v
theorem hset_0{a b:Ob} {l:List Ob}:hset (a::l) 0 b=b::l:=rfl
theorem bs_len(d:Dig):d.bs.length=16:=rfl
theorem Ent.rest_wt{e:Ent} {lv:Int} (h:e.wok lv=true):(2:Int)+1+e.k.length+(e.rest lv).length=e.wt lv:=by
 unfold Ent.wok at h
 unfold Ent.wt Ent.rest
 by_cases q:0<lv
 ·rw[if_pos q,if_pos q];simp [numS_len,bs_len];omega
 ·rw[if_neg q]at h ⊢
  rw[if_neg q]
  have h:=of_decide_eq_true h
  have hf:=e.form_cases
  unfold Ent.form Ent.keyed Ent.short Ent.long Ent.nest at h ⊢
  by_cases c1:e.ch=0
  ·by_cases c2:e.ov=0
   ·simp only[c1,c2,ne_eq,not_true,if_false,List.length_append,numS_len]
    grind [inR,isNo]
   ·simp only[c1,c2,ne_eq,not_true,not_false_eq_true,if_false,if_true,List.length_append,numS_len,bs_len]
    grind [inR,isNo]
  ·simp only[c1,ne_eq,not_false_eq_true,if_true,List.length_append,numS_len,bs_len]
   grind [inR,isNo]
section
variable {o:Orc} (ho:FreeT o)
include ho
theorem call147{n:Int} {w:Nat} (hw:w<1000) {h dst t d r K Q}:callW cx o dst t h d r (some (.fn 147 [.p (.int .i64 n),.p (.int .i64 (w:Int))])) K Q=K (put dst (.p (.str (numS n w))) t) h d r:=callW_ret ext147 (cs_p (f:=147) (ps:=[.int .i64 n,.int .i64 w]) rfl (num147 ho n hw))
theorem sum364(a:Dig):Ct cx o (.fn 364 [.p (.agg a.cs)]) [] (fun e _=>e=.ret (.p (.str a.bs))):=by
 refine ct364 (ho _ _ _ (by decide) (by decide)) rfl ?_
 simp only[sc364r0,sc364r1,sc364,↓rwS,↓rwX,rwZ,rwT,rwG,Nat.reduceEqDiff,Nat.reduceAdd,reduceCtorEq,Nat.reduceLT,dig_box,dig_sl,dig_cv,List.nil_append,List.length_nil,evo_none]
theorem call364{a:Dig} {h dst t d r K Q}:callW cx o dst t h d r (some (.fn 364 [.p (.agg a.cs)])) K Q=K (put dst (.p (.str a.bs)) t) h d r:=callW_ret ext364 (cs_p (f:=364) (ps:=[.agg a.cs]) rfl (sum364 ho a))
theorem rest362{e:Ent} {lv:Int} (h:e.wok lv=true):Ct cx o (.fn 362 [.p e.V,.p (.int .i64 lv)]) [] (fun en _=>en=.ret (.p (.str (e.rest lv)))):=by
 refine ct362 (ho _ _ _ (by decide) (by decide)) rfl ?_
 have hv:=(Ent.wok_v h).2
 have n4:∀ {n:Int} {h dst t d r K Q},callW cx o dst t h d r (some (.fn 147 [.p (.int .i64 n),.p (.int .i64 4)])) K Q=K (put dst (.p (.str (numS n 4))) t) h d r:=call147 ho (w:=4) (by decide)
 have n2:∀ {n:Int} {h dst t d r K Q},callW cx o dst t h d r (some (.fn 147 [.p (.int .i64 n),.p (.int .i64 2)])) K Q=K (put dst (.p (.str (numS n 2))) t) h d r:=call147 ho (w:=2) (by decide)
 have adS:∀ {q:Bool} {x y:List UInt8},x.length≤1000→y.length≤1000→bin3 .add cx 9 q (.p (.str x)) (.p (.str y))=.w (.p (.str (x++y))):=fun hx hy=>add_s (by omega)
 have l1:(numS e.ch 4).length≤1000:=by rw[numS_len];decide
 have l2:(numS e.ct 4).length≤1000:=by rw[numS_len];decide
 have l3:(numS e.ov 4).length≤1000:=by rw[numS_len];decide
 have l4:(numS e.ln 2).length≤1000:=by rw[numS_len];decide
 have l5:∀ n,(numS n 2).length≤1000:=fun n=>by rw[numS_len];decide
 have l6:e.sm.bs.length≤1000:=by rw[bs_len];decide
 have l7:e.v.length≤1000:=by omega
 have m1:(numS e.ch 4++numS e.ct 4).length≤1000:=by simp [numS_len]
 have m2:(numS 65534 2++numS e.ch 4).length≤1000:=by simp [numS_len]
 have m3:(numS 65534 2++numS e.ch 4++numS e.ct 4).length≤1000:=by simp [numS_len]
 have m4:(numS 65535 2++numS e.ov 4).length≤1000:=by simp [numS_len]
 have m5:(numS 65535 2++numS e.ov 4++numS e.ln 2).length≤1000:=by simp [numS_len]
 simp only[sc362r0,sc362r1,sc362r2,sc362d2_x,sc362r3,sc362r4,sc362d4_x,sc362r5,sc362r6,sc362d6_x,sc362r7,sc362d7_x,sc362,↓rwS,↓rwX,rwZ,rwT,rwG,Nat.reduceEqDiff,Nat.reduceAdd,reduceCtorEq,Nat.reduceLT,↓rwC,rwD,rwI,Nat.reduceSub,Nat.reduceLeDiff,LW_bt,LW_bf,rwEn,List.nil_append,List.cons_append,List.length_nil,List.length_cons,n4,n2,call364 ho,len_str u9,adS,l1,l2,l3,l4,l5,l6,l7,m1,m2,m3,m4,m5, *]
 repeat' (refine spl (fun hb=>?_) (fun hb=>?_)<;>try simp only[sc362r0,sc362r1,sc362r2,sc362d2_x,sc362r3,sc362r4,sc362d4_x,sc362r5,sc362r6,sc362d6_x,sc362r7,sc362d7_x,sc362,↓rwS,↓rwX,rwZ,rwT,rwG,Nat.reduceEqDiff,Nat.reduceAdd,reduceCtorEq,Nat.reduceLT,↓rwC,rwD,rwI,Nat.reduceSub,Nat.reduceLeDiff,LW_bt,LW_bf,rwEn,List.nil_append,List.cons_append,List.length_nil,List.length_cons,n4,n2,call364 ho,len_str u9,adS,l1,l2,l3,l4,l5,l6,l7,m1,m2,m3,m4,m5, *])
 all_goals(unfold Ent.rest;congr 3;grind)
theorem call362{e:Ent} {lv:Int} (hw:e.wok lv=true) {h dst t d r K Q}:callW cx o dst t h d r (some (.fn 362 [.p e.V,.p (.int .i64 lv)])) K Q=K (put dst (.p (.str (e.rest lv))) t) h d r:=callW_ret ext362 (cs_p (f:=362) (ps:=[e.V,.int .i64 lv]) rfl (rest362 ho hw))
theorem weight328{p:PV} {es:List Ent} (H:SlQ 22 p (es.map Ent.V)) (hl:es.length<1000000000) {lv:Int} (hw:wP es lv):Ct cx o (.fn 328 [.p p,.p (.int .i64 lv)]) [] (fun e _=>e=.ret (.p (.agg [.int .i64 (6+wsum lv es es.length),.int .i64 0]))):=by
 refine ct328 (ho _ _ _ (by decide) (by decide)) rfl ?_
 have hlen:∀ hh:List Ob,lenW cx hh 59 (.p p)=_:=fun hh=>ent_len H hh
 have hr:=hw.1
 unfold inR at hr
 have e1:decide (lv<0)=false:=decide_eq_false (by omega)
 have e2:decide (20<lv)=false:=decide_eq_false (by omega)
 have z1:zero? cx 419=some (.agg [.int .i64 0,.int .i64 0]):=by kernel_rfl
 have z2:(PV.agg [.int .i64 0,.int .i64 0]).cells.map AV.p=[.p (.int .i64 0),.p (.int .i64 0)]:=rfl
 have bd:∀ n:Int,build? cx 419 [(0,.p (.int .i64 n))]=some (.p (.agg [.int .i64 n,.int .i64 0])):=fun n=>by kernel_rfl
 have st:∀ n:Int,store? cx [Ob.cells 419 [.p (.int .i64 0),.p (.int .i64 0)]] 419 (.ptr 0 0) (.p (.agg [.int .i64 n,.int .i64 0]))=.ws undefA 0 (.cells 419 [.p (.int .i64 n),.p (.int .i64 0)]):=fun n=>store_whole s419 rfl (show _=some [AV.p (.int .i64 n),.p (.int .i64 0)]from rfl) rfl rfl
 have ld:∀ n:Int,load? cx [Ob.cells 419 [.p (.int .i64 n),.p (.int .i64 0)]] 419 (.ptr 0 0)=some (.p (.agg [.int .i64 n,.int .i64 0])):=fun n=>(load_whole a419 s419 rfl rfl).trans rfl
 simp only[sc328r0,sc328r1,sc328r2,sc328r3,sc328r4,sc328r5,sc328r6,sc328r7,sc328r8,sc328d8_x,sc328r9,sc328r11,sc328,↓rwS,↓rwX,rwZ,rwT,rwG,Nat.reduceEqDiff,Nat.reduceAdd,reduceCtorEq,Nat.reduceLT,e1,e2,z1,z2,List.nil_append,List.length_nil]
 refine xC_loop (fun n t h' d r=>∃ i:Nat,n=es.length-i∧i≤es.length ∧ [Ob.cells 419 [.p (.int .i64 0),.p (.int .i64 0)]]=h'∧d=[]∧r=none∧t.get 0=.p p∧t.get 1=.p (.int .i64 lv)∧t.get 4=.ptr 0 0∧t.get 5=.p (.int .i64 (6+wsum lv es i))∧t.get 6=.p (.int .i64 (i:Int))) es.length ?_ ?_
 ·refine⟨0,rfl,by omega,rfl,rfl,rfl,?_⟩
  simp only[↓rwA,rwB,rwG,Nat.reduceEqDiff,Nat.reduceAdd,reduceCtorEq,Nat.reduceLT,true_and,wsum_0,Int.add_zero]
  first|rfl|exact trivial
 ·rintro n t h' d r ⟨i,rfl,hi,rfl,rfl,rfl,t0,t1,t4,t5,t6⟩
  have w1:=one63 (show i+1<9223372036854775808 by omega)
  by_cases hlt:i<es.length
  ·have e3:decide ((i:Int)<(es.length:Int))=true:=decide_eq_true (by omega)
   have ai:=ent_at H hlt
   have hwi:=hw.2 i hlt
   have hk:=Ent.wok_v hwi
   have hle:=wsum_le (n:=i) (by omega) (fun k hk=>hw.2 k (by omega))
   have hle1:=Ent.wt_le hwi
   have hrw:=Ent.rest_wt hwi
   have a1:IntKind.wrap .i64 (6+wsum lv es i+2)=6+wsum lv es i+2:=wrap64_id (by omega) (by omega)
   have a2:IntKind.wrap .i64 (6+wsum lv es i+2+1)=6+wsum lv es i+2+1:=wrap64_id (by omega) (by omega)
   have a3:IntKind.wrap .i64 (6+wsum lv es i+2+1+((es.getD i Ent.z).k.length:Int))=6+wsum lv es i+2+1+((es.getD i Ent.z).k.length:Int):=wrap64_id (by omega) (by omega)
   have a4:IntKind.wrap .i64 (6+wsum lv es i+2+1+((es.getD i Ent.z).k.length:Int)+(((es.getD i Ent.z).rest lv).length:Int))=6+wsum lv es (i+1):=by
    rw[wsum_succ hlt,wrap64_id (by omega) (by omega)];omega
   have e6:decide (48<((es.getD i Ent.z).k.length:Int))=false:=decide_eq_false (by omega)
   have fin:decide (lv=0)=true∧decide (0<lv)=false∧decide ((es.getD i Ent.z).form=0)=false∨decide (lv=0)=false∧decide (0<lv)=true∧(es.getD i Ent.z).bq=true:=by
    have hwi:=hwi
    unfold Ent.wok at hwi
    split at hwi
    ·rename_i q
     refine .inr ⟨decide_eq_false (by omega),decide_eq_true q,?_⟩
     rw[Ent.bq_br]at hwi
     simp at hwi;exact hwi.2
    ·rename_i q
     have:=of_decide_eq_true hwi
     exact .inl ⟨decide_eq_true (by omega),decide_eq_false q,decide_eq_false (by omega)⟩
   rcases fin with⟨f1,f2,f3⟩|⟨f1,f2,f3⟩
   all_goals
    simp only[sc328r0,sc328r1,sc328r2,sc328r3,sc328r4,sc328r5,sc328r6,sc328r7,sc328r8,sc328d8_x,sc328r9,sc328l10,sc328r11,sc328,↓rwC,rwD,rwI,Nat.reduceSub,Nat.reduceLeDiff,↓rwS,↓rwX,rwZ,rwT,rwG,Nat.reduceEqDiff,Nat.reduceAdd,reduceCtorEq,Nat.reduceLT,hlen,t0,t1,t4,t5,t6,e3,f1,f2,f3,e6,ai,w1,ee_c,ee_k,ee_kl,call329 ho,call330 ho,call362 ho hwi,len_str u9,a1,a2,a3,a4,Bool.not_true,Bool.not_false,true_and]
    refine⟨_,?_,i+1,rfl,by omega,rfl,?_⟩
    ·omega
    ·first|rfl|exact trivial|exact⟨rfl,rfl⟩
  ·have e3:decide ((i:Int)<(es.length:Int))=false:=decide_eq_false (by omega)
   obtain rfl:i=es.length:=by omega
   simp only[sc328r0,sc328r1,sc328r2,sc328r3,sc328r4,sc328r5,sc328r6,sc328r7,sc328r8,sc328d8_x,sc328r9,sc328l10,sc328r11,sc328,↓rwS,↓rwX,rwZ,rwT,rwG,Nat.reduceEqDiff,Nat.reduceAdd,reduceCtorEq,Nat.reduceLT,hlen,t0,t1,t4,t5,t6,e3,bd,st,hset_0,ld]
theorem call328{p:PV} {es:List Ent} (H:SlQ 22 p (es.map Ent.V)) (hl:es.length<1000000000) {lv:Int} (hw:wP es lv) {h dst t d r K Q}:callW cx o dst t h d r (some (.fn 328 [.p p,.p (.int .i64 lv)])) K Q=K (put dst (.p (.agg [.int .i64 (6+wsum lv es es.length),.int .i64 0])) t) h d r:=callW_ret ext328 (cs_p (f:=328) (ps:=[p,.int .i64 lv]) rfl (weight328 ho H hl hw))
theorem call289{p:PV} {es:List Ent} (H:SlQ 22 p (es.map Ent.V)) (hl:es.length<1000000000) {lv:Int} {h dst t d r K Q}:callW cx o dst t h d r (some (.fn 289 [.p p,.p (.int .i64 lv)])) K Q=K (put dst (.p (.bool (validB es lv))) t) h d r:=callW_ret ext289 (cs_p (f:=289) (ps:=[p,.int .i64 lv]) rfl (valid289 ho H hl lv))
theorem fits285{p:PV} {es:List Ent} (H:SlQ 22 p (es.map Ent.V)) (hl:es.length<1000000000) (lv:Int):Ct cx o (.fn 285 [.p p,.p (.int .i64 lv)]) [] (fun e _=>e=.ret (.p (.bool (fitsB es lv)))):=by
 refine ct285 (ho _ _ _ (by decide) (by decide)) rfl ?_
 unfold fitsB
 have fl:∀ a b:Int,field? cx 419 (.p (.agg [.int .i64 a,.int .i64 b])) 0=some (.p (.int .i64 a)):=fun a b=>by kernel_rfl
 cases hv:validB es lv with
 |false=>simp only[sc285r0,sc285r1,sc285,↓rwS,↓rwX,rwZ,rwT,rwG,Nat.reduceEqDiff,Nat.reduceAdd,reduceCtorEq,Nat.reduceLT,call289 ho H hl,hv,Bool.not_false,Bool.false_and]
 |true=>simp only[sc285r0,sc285r1,sc285,↓rwS,↓rwX,rwZ,rwT,rwG,Nat.reduceEqDiff,Nat.reduceAdd,reduceCtorEq,Nat.reduceLT,call289 ho H hl,hv,Bool.not_true,Bool.true_and,call328 ho H hl (valid_w hv),opD_field,fl]
theorem call285{p:PV} {es:List Ent} (H:SlQ 22 p (es.map Ent.V)) (hl:es.length<1000000000) {lv:Int} {h dst t d r K Q}:callW cx o dst t h d r (some (.fn 285 [.p p,.p (.int .i64 lv)])) K Q=K (put dst (.p (.bool (fitsB es lv))) t) h d r:=callW_ret ext285 (cs_p (f:=285) (ps:=[p,.int .i64 lv]) rfl (fits285 ho H hl lv))
end
def wcnt(fs:List Frd) (n:Nat):Int:=((fs.take n).map fun f=>2+(f.l.length:Int)).sum
theorem wcnt_0{fs:List Frd}:wcnt fs 0=0:=by unfold wcnt;simp
theorem wcnt_succ{fs:List Frd} {n:Nat} (h:n<fs.length):wcnt fs (n+1)=wcnt fs n+(2+((fs.getD n Frd.z).l.length:Int)):=by
  unfold wcnt
  rw[List.take_succ_eq_append_getElem h,List.map_append,List.sum_append]
  simp [List.getD,h]
theorem wcnt_le{fs:List Frd}:∀ {n:Nat},n≤fs.length→0≤wcnt fs n∧4*wcnt fs n=lsum fs n:=by
  intro n
  induction n with
  |zero=>intro _;rw[wcnt_0,lsum_0];simp
  |succ n ih=>
    intro h1
    have:=ih (by omega)
    rw[wcnt_succ (by omega),lsum_succ (by omega)]
    omega
section
variable {o:Orc} (ho:FreeT o)
include ho
theorem freed_in2 {f : Frd} (hf : f.ok) {m : List Ob} {Q : Post} {t : Tm} {x0 x3 : AV} (t0 : t.get 0 = x0) (t3 : t.get 3 = x3) (t4 : t.get 4 = .ptr m.length 0) (t5 : t.get 5 = .p (.int .i64 0))
    (hx:∀ t':Tm,t'.get 0=x0→t'.get 3=x3→(∀ k,k<f.l.length→nosP f.l k)→Q (.exit 2) t' (m++[f.c]) [] none)
    (hr:∀ t':Tm,t'.get 2=.p (.bool false)→¬(∀ k,k<f.l.length→nosP f.l k)→Q .ret t' (m++[f.c]) [] none):xC cx o none (.loop sc286l11) Q t (m++[f.c]) [] none:=by
  have hil:∀ hh:List Ob,lenW cx hh 23 (.p f.p)=_:=fun hh=>i_len hf.1 hh
  refine xC_loop (fun n t h' d r=>∃ i:Nat,n=f.l.length-i∧i≤f.l.length∧(∀ k,k<i→nosP f.l k)∧m++[f.c]=h'∧d=[]∧r=none∧t.get 0=x0∧t.get 3=x3∧t.get 4=.ptr m.length 0∧t.get 5=.p (.int .i64 (i:Int))) f.l.length ?_ ?_
  · exact⟨0,rfl,by omega,fun k hk=>by omega,rfl,rfl,rfl,t0,t3,t4,t5⟩
  · rintro n t h' d r ⟨i,rfl,hi,hok,rfl,rfl,rfl,t0,t3,t4,t5⟩
    have hlb:=hf.2
    by_cases hlt:i<f.l.length
    · have w1:=one63 (show i+1<9223372036854775808 by omega)
      have e1:decide ((i:Int)<(f.l.length:Int))=true:=decide_eq_true (by omega)
      have ai:=i_at hf.1 hlt
      by_cases h0:0<i
      · have e2:decide (0<(i:Int))=true:=decide_eq_true (by omega)
        have w2:IntKind.wrap .i64 ((i:Int)-1)=((i-1:Nat):Int):=by rw[wrap64_id (by omega) (by omega)];omega
        have aj:=i_at (k:=i-1) hf.1 (by omega)
        simp only[sc286r0,sc286r1,sc286r2,sc286r3,sc286r4,sc286d4_x,sc286r5,sc286r6,sc286r7,sc286r8,sc286d8_x,sc286r9,sc286r10,sc286l11,sc286r12,sc286l13,sc286r14,sc286,↓rwS,↓rwX,rwZ,rwT,rwG,Nat.reduceEqDiff,Nat.reduceAdd,reduceCtorEq,Nat.reduceLT,↓rwC,rwD,rwI,Nat.reduceSub,Nat.reduceLeDiff,LW_bt,LW_bf,true_and,t0,t3,t4,t5,e1,e2,ai,aj,w1,w2,fe_1,fe_f1,ld_ci,hil,call283 ho, *]
        repeat' (refine spl (fun hb=>?_) (fun hb=>?_)<;>try simp only[sc286r0,sc286r1,sc286r2,sc286r3,sc286r4,sc286d4_x,sc286r5,sc286r6,sc286r7,sc286r8,sc286d8_x,sc286r9,sc286r10,sc286l11,sc286r12,sc286l13,sc286r14,sc286,↓rwS,↓rwX,rwZ,rwT,rwG,Nat.reduceEqDiff,Nat.reduceAdd,reduceCtorEq,Nat.reduceLT,↓rwC,rwD,rwI,Nat.reduceSub,Nat.reduceLeDiff,LW_bt,LW_bf,true_and,t0,t3,t4,t5,e1,e2,ai,aj,w1,w2,fe_1,fe_f1,ld_ci,hil,call283 ho, *])
        all_goals first
          | (refine hr _ (by simp only[Tm.get_set,Nat.reduceEqDiff,if_true,if_false]) (fun q=>?_);have q:=q i hlt;unfold nosP at q;grind)
          | (refine ⟨_, ?_, i + 1, rfl, by omega, fun k hk => ?_, ?_⟩
             · omega
             · by_cases qk:k=i
               · subst qk;unfold nosP;grind
               · exact hok k (by omega)
             · first|rfl|exact trivial|exact⟨rfl,rfl⟩|(simp only[true_and,and_true];done))
      · have e2:decide (0<(i:Int))=false:=decide_eq_false (by omega)
        simp only[sc286r0,sc286r1,sc286r2,sc286r3,sc286r4,sc286d4_x,sc286r5,sc286r6,sc286r7,sc286r8,sc286d8_x,sc286r9,sc286r10,sc286l11,sc286r12,sc286l13,sc286r14,sc286,↓rwS,↓rwX,rwZ,rwT,rwG,Nat.reduceEqDiff,Nat.reduceAdd,reduceCtorEq,Nat.reduceLT,↓rwC,rwD,rwI,Nat.reduceSub,Nat.reduceLeDiff,LW_bt,LW_bf,true_and,t0,t3,t4,t5,e1,e2,ai,w1,fe_1,fe_f1,ld_ci,hil,call283 ho, *]
        repeat' (refine spl (fun hb=>?_) (fun hb=>?_)<;>try simp only[sc286r0,sc286r1,sc286r2,sc286r3,sc286r4,sc286d4_x,sc286r5,sc286r6,sc286r7,sc286r8,sc286d8_x,sc286r9,sc286r10,sc286l11,sc286r12,sc286l13,sc286r14,sc286,↓rwS,↓rwX,rwZ,rwT,rwG,Nat.reduceEqDiff,Nat.reduceAdd,reduceCtorEq,Nat.reduceLT,↓rwC,rwD,rwI,Nat.reduceSub,Nat.reduceLeDiff,LW_bt,LW_bf,true_and,t0,t3,t4,t5,e1,e2,ai,w1,fe_1,fe_f1,ld_ci,hil,call283 ho, *])
        all_goals first
          | (refine hr _ (by simp only[Tm.get_set,Nat.reduceEqDiff,if_true,if_false]) (fun q=>?_);have q:=q i hlt;unfold nosP at q;grind)
          | (refine ⟨_, ?_, i + 1, rfl, by omega, fun k hk => ?_, ?_⟩
             · omega
             · by_cases qk:k=i
               · subst qk;unfold nosP;grind
               · exact hok k (by omega)
             · first|rfl|exact trivial|exact⟨rfl,rfl⟩|(simp only[true_and,and_true];done))
    · have e1:decide ((i:Int)<(f.l.length:Int))=false:=decide_eq_false (by omega)
      simp only[sc286r0,sc286r1,sc286r2,sc286r3,sc286r4,sc286d4_x,sc286r5,sc286r6,sc286r7,sc286r8,sc286d8_x,sc286r9,sc286r10,sc286l11,sc286r12,sc286l13,sc286r14,sc286,↓rwS,↓rwX,rwZ,rwT,rwG,Nat.reduceEqDiff,Nat.reduceAdd,reduceCtorEq,Nat.reduceLT,t0,t3,t4,t5,e1,fe_1,fe_f1,hil]
      refine hx _ ?_ ?_ (fun k hk=>hok k (by omega))
      all_goals simp only[Tm.get_set,Nat.reduceEqDiff,if_true,if_false,t0,t3]
set_option maxHeartbeats 4000000 in
theorem freed286{p:PV} {fs:List Frd} (H:SlQ 2 p (fs.map Frd.V)) (hF:∀ f∈fs,f.ok) (hl:fs.length<1000000000):Ct cx o (.fn 286 [.p p]) [] (fun e _=>e=.ret (.p (.bool (freedB fs)))):=by
  refine ct286 (ho _ _ _ (by decide) (by decide)) rfl ?_
  have hlen:∀ hh:List Ob,lenW cx hh 60 (.p p)=_:=fun hh=>frd_len H hh
  simp only[sc286r0,sc286r1,sc286r2,sc286r3,sc286r4,sc286d4_x,sc286r5,sc286r6,sc286r7,sc286r8,sc286d8_x,sc286r9,sc286r10,sc286r12,sc286r14,sc286,↓rwS,↓rwX,rwZ,rwT,rwG,Nat.reduceEqDiff,Nat.reduceAdd,reduceCtorEq,Nat.reduceLT,hlen]
  refine xC_loop (fun n t h' d r=>∃ i:Nat,n=fs.length-i∧i≤fs.length∧(∀ k,k<i→frdP fs k)∧d=[]∧r=none∧t.get 0=.p p∧t.get 3=.p (.int .i64 (i:Int))) fs.length ?_ ?_
  · refine⟨0,rfl,by omega,fun k hk=>by omega,rfl,rfl,?_⟩
    simp only[↓rwA,rwB,rwG,Nat.reduceEqDiff,Nat.reduceAdd,reduceCtorEq,Nat.reduceLT,true_and]
    first|rfl|exact trivial
  · rintro n t h' d r ⟨i,rfl,hi,hok,rfl,rfl,t0,t3⟩
    have w1:=one63 (show i+1<9223372036854775808 by omega)
    by_cases hlt:i<fs.length
    · have e1:decide ((i:Int)<(fs.length:Int))=true:=decide_eq_true (by omega)
      have ai:=frd_at H hlt
      have hfo:=hF _ (frd_mem hlt)
      have hil:∀ hh:List Ob,lenW cx hh 23 (.p (fs.getD i Frd.z).p)=_:=fun hh=>i_len hfo.1 hh
      by_cases h0:0<i
      · have e2:decide (0<(i:Int))=true:=decide_eq_true (by omega)
        have w2:=pred64 (show i<4611686018427387904 by omega) h0
        have aj:=frd_at (k:=i-1) H (by omega)
        simp only[sc286r0,sc286r1,sc286r2,sc286r3,sc286r4,sc286d4_x,sc286r5,sc286r6,sc286r7,sc286r8,sc286d8_x,sc286r9,sc286r10,sc286r12,sc286r14,sc286,↓rwS,↓rwX,rwZ,rwT,rwG,Nat.reduceEqDiff,Nat.reduceAdd,reduceCtorEq,Nat.reduceLT,sc286l13,↓rwC,rwD,rwI,Nat.reduceSub,Nat.reduceLeDiff,LW_bt,LW_bf,true_and,hlen,t0,t3,e1,e2,ai,aj,w1,w2,fe_c,fe_k,ld_ci,zfrd,zfrd_c,fe_st,fe_0,fe_1,fe_f0,fe_f1,hset_end,hil, *]
        repeat' (refine spl (fun hb=>?_) (fun hb=>?_)<;>try simp only[sc286r0,sc286r1,sc286r2,sc286r3,sc286r4,sc286d4_x,sc286r5,sc286r6,sc286r7,sc286r8,sc286d8_x,sc286r9,sc286r10,sc286r12,sc286r14,sc286,↓rwS,↓rwX,rwZ,rwT,rwG,Nat.reduceEqDiff,Nat.reduceAdd,reduceCtorEq,Nat.reduceLT,sc286l13,↓rwC,rwD,rwI,Nat.reduceSub,Nat.reduceLeDiff,LW_bt,LW_bf,true_and,hlen,t0,t3,e1,e2,ai,aj,w1,w2,fe_c,fe_k,ld_ci,zfrd,zfrd_c,fe_st,fe_0,fe_1,fe_f0,fe_f1,hset_end,hil, *])
        all_goals first
          | (refine ret_bool (freedB_f fun q=>?_);have q:=q i hlt;unfold frdP inR at q;grind)
          | (refine freed_in2 ho hfo (x0 := .p p) (x3 := .p (.int .i64 (i : Int))) ?_ ?_ ?_ ?_ (fun t' y0 y3 hin => ?_) (fun t' y2 hin => ?_)
             all_goals first
              | (simp only [↓rwS, ↓rwX, rwZ, rwT, rwG, Nat.reduceEqDiff, Nat.reduceAdd, reduceCtorEq, Nat.reduceLT, w1, y0, y3, blockP_exit, if_true, sc286r12, true_and]
                 refine⟨_,?_,i+1,rfl,by omega,fun k hk=>?_,?_⟩
                 · omega
                 · by_cases qk:k=i
                   · subst qk;unfold frdP inR;grind
                   · exact hok k (by omega)
                 · first|rfl|exact trivial|exact⟨rfl,rfl⟩)
              | (simp only[↓rwS,↓rwX,rwZ,rwT,rwG,Nat.reduceEqDiff,Nat.reduceAdd,reduceCtorEq,Nat.reduceLT,y2];refine ret_bool (freedB_f fun q=>?_);have q:=q i hlt;unfold frdP at q;grind)
              | (simp only[Tm.get_set,Nat.reduceEqDiff,if_true,if_false,t0,t3];done))
      · have e2:decide (0<(i:Int))=false:=decide_eq_false (by omega)
        simp only[sc286r0,sc286r1,sc286r2,sc286r3,sc286r4,sc286d4_x,sc286r5,sc286r6,sc286r7,sc286r8,sc286d8_x,sc286r9,sc286r10,sc286r12,sc286r14,sc286,↓rwS,↓rwX,rwZ,rwT,rwG,Nat.reduceEqDiff,Nat.reduceAdd,reduceCtorEq,Nat.reduceLT,sc286l13,↓rwC,rwD,rwI,Nat.reduceSub,Nat.reduceLeDiff,LW_bt,LW_bf,true_and,hlen,t0,t3,e1,e2,ai,w1,fe_c,fe_k,ld_ci,zfrd,zfrd_c,fe_st,fe_0,fe_1,fe_f0,fe_f1,hset_end,hil, *]
        repeat' (refine spl (fun hb=>?_) (fun hb=>?_)<;>try simp only[sc286r0,sc286r1,sc286r2,sc286r3,sc286r4,sc286d4_x,sc286r5,sc286r6,sc286r7,sc286r8,sc286d8_x,sc286r9,sc286r10,sc286r12,sc286r14,sc286,↓rwS,↓rwX,rwZ,rwT,rwG,Nat.reduceEqDiff,Nat.reduceAdd,reduceCtorEq,Nat.reduceLT,sc286l13,↓rwC,rwD,rwI,Nat.reduceSub,Nat.reduceLeDiff,LW_bt,LW_bf,true_and,hlen,t0,t3,e1,e2,ai,w1,fe_c,fe_k,ld_ci,zfrd,zfrd_c,fe_st,fe_0,fe_1,fe_f0,fe_f1,hset_end,hil, *])
        all_goals first
          | (refine ret_bool (freedB_f fun q=>?_);have q:=q i hlt;unfold frdP inR at q;grind)
          | (refine freed_in2 ho hfo (x0 := .p p) (x3 := .p (.int .i64 (i : Int))) ?_ ?_ ?_ ?_ (fun t' y0 y3 hin => ?_) (fun t' y2 hin => ?_)
             all_goals first
              | (simp only [↓rwS, ↓rwX, rwZ, rwT, rwG, Nat.reduceEqDiff, Nat.reduceAdd, reduceCtorEq, Nat.reduceLT, w1, y0, y3, blockP_exit, if_true, sc286r12, true_and]
                 refine⟨_,?_,i+1,rfl,by omega,fun k hk=>?_,?_⟩
                 · omega
                 · by_cases qk:k=i
                   · subst qk;unfold frdP inR;grind
                   · exact hok k (by omega)
                 · first|rfl|exact trivial|exact⟨rfl,rfl⟩)
              | (simp only[↓rwS,↓rwX,rwZ,rwT,rwG,Nat.reduceEqDiff,Nat.reduceAdd,reduceCtorEq,Nat.reduceLT,y2];refine ret_bool (freedB_f fun q=>?_);have q:=q i hlt;unfold frdP at q;grind)
              | (simp only[Tm.get_set,Nat.reduceEqDiff,if_true,if_false,t0,t3];done))
    · have e1:decide ((i:Int)<(fs.length:Int))=false:=decide_eq_false (by omega)
      simp only[sc286r0,sc286r1,sc286r2,sc286r3,sc286r4,sc286d4_x,sc286r5,sc286r6,sc286r7,sc286r8,sc286d8_x,sc286r9,sc286r10,sc286r12,sc286r14,sc286,sc286l13,↓rwS,↓rwX,rwZ,rwT,rwG,Nat.reduceEqDiff,Nat.reduceAdd,reduceCtorEq,Nat.reduceLT,hlen,t0,t3,e1]
      exact ret_bool (freedB_t fun k hk=>hok k (by omega))
theorem call286{p:PV} {fs:List Frd} (H:SlQ 2 p (fs.map Frd.V)) (hF:∀ f∈fs,f.ok) (hl:fs.length<1000000000) {h dst t d r K Q}:callW cx o dst t h d r (some (.fn 286 [.p p])) K Q=K (put dst (.p (.bool (freedB fs))) t) h d r:=callW_ret ext286 (cs_p (f:=286) (ps:=[p]) rfl (freed286 ho H hF hl))
theorem words287{p:PV} {fs:List Frd} (H:SlQ 2 p (fs.map Frd.V)) (hF:∀ f∈fs,f.ok) (hl:fs.length<1000000000) (hP:FreedP fs):Ct cx o (.fn 287 [.p p]) [] (fun e _=>e=.ret (.p (.int .i64 (wcnt fs fs.length)))):=by
  refine ct287 (ho _ _ _ (by decide) (by decide)) rfl ?_
  have hlen:∀ hh:List Ob,lenW cx hh 60 (.p p)=_:=fun hh=>frd_len H hh
  simp only[sc287r0,sc287r1,sc287r2,sc287r3,sc287r4,sc287r5,sc287r7,sc287,↓rwS,↓rwX,rwZ,rwT,rwG,Nat.reduceEqDiff,Nat.reduceAdd,reduceCtorEq,Nat.reduceLT,hlen]
  refine xC_loop (fun n t h' d r=>∃ i:Nat,n=fs.length-i∧i≤fs.length∧d=[]∧r=none∧t.get 0=.p p∧t.get 3=.p (.int .i64 (wcnt fs i))∧t.get 4=.p (.int .i64 (i:Int))) fs.length ?_ ?_
  · refine⟨0,rfl,by omega,rfl,rfl,?_⟩
    simp only[↓rwA,rwB,rwG,Nat.reduceEqDiff,Nat.reduceAdd,reduceCtorEq,Nat.reduceLT,true_and,wcnt_0]
    first|rfl|exact trivial
  · rintro n t h' d r ⟨i,rfl,hi,rfl,rfl,t0,t3,t4⟩
    have w1:=one63 (show i+1<9223372036854775808 by omega)
    by_cases hlt:i<fs.length
    · have e1:decide ((i:Int)<(fs.length:Int))=true:=decide_eq_true (by omega)
      have ai:=frd_at H hlt
      have hfo:=hF _ (frd_mem hlt)
      have hil:∀ hh:List Ob,lenW cx hh 23 (.p (fs.getD i Frd.z).p)=_:=fun hh=>i_len hfo.1 hh
      have hle:=lsum_le hP (n:=i) (by omega)
      have hwc:=wcnt_le (fs:=fs) (n:=i) (by omega)
      have hn:=nos_len (hP i hlt).2.2.2
      have a1:IntKind.wrap .i64 (wcnt fs i+2)=wcnt fs i+2:=wrap64_id (by omega) (by omega)
      have a2:IntKind.wrap .i64 (wcnt fs i+2+((fs.getD i Frd.z).l.length:Int))=wcnt fs (i+1):=by
        rw[wcnt_succ hlt,wrap64_id (by omega) (by omega)];omega
      simp only[sc287r0,sc287r1,sc287r2,sc287r3,sc287r4,sc287r5,sc287l6,sc287r7,sc287,↓rwC,rwD,rwI,Nat.reduceSub,Nat.reduceLeDiff,↓rwS,↓rwX,rwZ,rwT,rwG,Nat.reduceEqDiff,Nat.reduceAdd,reduceCtorEq,Nat.reduceLT,hlen,t0,t3,t4,e1,ai,w1,fe_k1,ld_q hfo.1,hil,a1,a2,true_and]
      refine⟨_,?_,i+1,rfl,by omega,?_⟩
      · omega
      · first|rfl|exact trivial|exact⟨rfl,rfl⟩
    · have e1:decide ((i:Int)<(fs.length:Int))=false:=decide_eq_false (by omega)
      obtain rfl:i=fs.length:=by omega
      simp only[sc287r0,sc287r1,sc287r2,sc287r3,sc287r4,sc287r5,sc287l6,sc287r7,sc287,↓rwS,↓rwX,rwZ,rwT,rwG,Nat.reduceEqDiff,Nat.reduceAdd,reduceCtorEq,Nat.reduceLT,hlen,t0,t3,t4,e1]
theorem call287{p:PV} {fs:List Frd} (H:SlQ 2 p (fs.map Frd.V)) (hF:∀ f∈fs,f.ok) (hl:fs.length<1000000000) (hP:freedB fs=true) {h dst t d r K Q}:callW cx o dst t h d r (some (.fn 287 [.p p])) K Q=K (put dst (.p (.int .i64 (wcnt fs fs.length))) t) h d r:=callW_ret ext287 (cs_p (f:=287) (ps:=[p]) rfl (words287 ho H hF hl (by simpa [freedB]using hP)))
end
open Classical in
noncomputable def plain2(g:Pg):Bool:=decide ((¬(g.kd=1∨g.kd=2)→g.tr=0∧g.lv=0∧g.top=false∧(g.es.length:Int)=0)∧((g.kd=1∨g.kd=2)→g.nx=0)∧(g.kd=3∨g.dt=[])∧(g.kd=4∨(g.fs.length:Int)=0))
theorem wsum_ge{lv:Int} {es:List Ent}:∀ {n:Nat},n≤es.length→(∀ k,k<n→(es.getD k Ent.z).wok lv=true)→(5*n:Int)≤wsum lv es n:=by
 intro n
 induction n with
 |zero=>intro _ _;rw[wsum_0];simp
 |succ n ih=>
  intro h1 h2
  have:=ih (by omega) (fun k hk=>h2 k (by omega))
  rw[wsum_succ (by omega)]
  have hw:=h2 n (by omega)
  have:5≤(es.getD n Ent.z).wt lv:=by
   unfold Ent.wok at hw
   unfold Ent.wt
   split at hw
   ·rename_i q;rw[if_pos q];omega
   ·rename_i q
    have:=of_decide_eq_true hw
    rw[if_neg q];grind
  omega
theorem lsum_ge{fs:List Frd}:∀ {n:Nat},n≤fs.length→(8*n:Int)≤lsum fs n:=by
 intro n
 induction n with
 |zero=>intro _;rw[lsum_0];simp
 |succ n ih=>
  intro h1
  have:=ih (by omega)
  rw[lsum_succ (by omega)]
  omega
theorem fits_le{es:List Ent} {lv:Int} (h:fitsB es lv=true):(es.length:Int)≤496:=by
 unfold fitsB at h
 rw[Bool.and_eq_true]at h
 have h2:=of_decide_eq_true h.2
 have:=wsum_ge (n:=es.length) (Nat.le_refl _) (valid_w h.1).2
 omega
section
variable {o:Orc} (ho:FreeT o)
include ho
theorem list_in{p:PV} {fs:List Frd} (H:SlQ 2 p (fs.map Frd.V)) {i:Nat} (hlt:i<fs.length) (hf:(fs.getD i Frd.z).ok) (hn:(fs.getD i Frd.z).l.length≤4094) {h':List Ob} {Q:Post} {t:Tm} {s0:List UInt8} (hs0:s0.length<1000000000000000) (t0:t.get 0=.p p) (t3:t.get 3=.p (.str s0)) (t4:t.get 4=.p (.int .i64 (i:Int))) (t5:t.get 5=.p (.int .i64 0))
  (hx:∀ (t':Tm) (s:List UInt8),t'.get 0=.p p→t'.get 4=.p (.int .i64 (i:Int))→t'.get 3=.p (.str s)→(s.length:Int)=s0.length+4*(fs.getD i Frd.z).l.length→Q (.exit 2) t' h' [] none):xC cx o none (.loop sc288l9) Q t h' [] none:=by
 have hlen:∀ hh:List Ob,lenW cx hh 60 (.p p)=_:=fun hh=>frd_len H hh
 have hil:∀ hh:List Ob,lenW cx hh 23 (.p (fs.getD i Frd.z).p)=_:=fun hh=>i_len hf.1 hh
 have ai:=frd_at H hlt
 have n4:∀ {n:Int} {h dst t d r K Q},callW cx o dst t h d r (some (.fn 147 [.p (.int .i64 n),.p (.int .i64 4)])) K Q=K (put dst (.p (.str (numS n 4))) t) h d r:=call147 ho (w:=4) (by decide)
 refine xC_loop (fun n t h d r=>∃ (k:Nat) (s:List UInt8),n=(fs.getD i Frd.z).l.length-k∧k≤(fs.getD i Frd.z).l.length∧s.length=s0.length+4*k∧h'=h∧d=[]∧r=none∧t.get 0=.p p∧t.get 3=.p (.str s)∧t.get 4=.p (.int .i64 (i:Int))∧t.get 5=.p (.int .i64 (k:Int))) (fs.getD i Frd.z).l.length ?_ ?_
 ·exact⟨0,s0,rfl,by omega,rfl,rfl,rfl,rfl,t0,t3,t4,t5⟩
 ·rintro n t h d r ⟨k,s,rfl,hk,hs,rfl,rfl,rfl,t0,t3,t4,t5⟩
  have w1:=one63 (show k+1<9223372036854775808 by omega)
  by_cases hkl:k<(fs.getD i Frd.z).l.length
  ·have e1:decide ((k:Int)<((fs.getD i Frd.z).l.length:Int))=true:=decide_eq_true (by omega)
   have aj:=i_at hf.1 hkl
   have ad:∀ (q:Bool) (n:Int),bin3 .add cx 9 q (.p (.str s)) (.p (.str (numS n 4)))=.w (.p (.str (s++numS n 4))):=fun q n=>add_s (by rw[numS_len];omega)
   simp only[sc288r0,sc288r1,sc288r2,sc288r3,sc288r4,sc288d4_x,sc288r5,sc288r6,sc288r7,sc288r8,sc288l9,sc288r10,sc288l11,sc288r12,sc288,↓rwC,rwD,rwI,Nat.reduceSub,Nat.reduceLeDiff,↓rwS,↓rwX,rwZ,rwT,rwG,Nat.reduceEqDiff,Nat.reduceAdd,reduceCtorEq,Nat.reduceLT,t0,t3,t4,t5,e1,ai,aj,fe_k1,ld_q hf.1,hil,ld_ci,n4,ad,w1,true_and]
   refine⟨_,?_,k+1,_,rfl,by omega,?_,rfl,?_⟩
   ·omega
   ·rw[List.length_append,numS_len,hs];omega
   ·first|rfl|exact trivial|exact⟨rfl,rfl⟩
  ·have e1:decide ((k:Int)<((fs.getD i Frd.z).l.length:Int))=false:=decide_eq_false (by omega)
   simp only[sc288r0,sc288r1,sc288r2,sc288r3,sc288r4,sc288d4_x,sc288r5,sc288r6,sc288r7,sc288r8,sc288l9,sc288r10,sc288l11,sc288r12,sc288,↓rwS,↓rwX,rwZ,rwT,rwG,Nat.reduceEqDiff,Nat.reduceAdd,reduceCtorEq,Nat.reduceLT,t0,t3,t4,t5,e1,ai,fe_k1,ld_q hf.1,hil]
   refine hx _ s ?_ ?_ ?_ (by omega)
   all_goals simp only[Tm.get_set,Nat.reduceEqDiff,if_true,if_false,t0,t3,t4]
theorem list288{p:PV} {fs:List Frd} (H:SlQ 2 p (fs.map Frd.V)) (hF:∀ f∈fs,f.ok) (hl:fs.length<1000000000) (hP:FreedP fs):Ct cx o (.fn 288 [.p p]) [] (fun e _=>∃ s:List UInt8,e=.ret (.p (.str s))∧(s.length:Int)=2+lsum fs fs.length):=by
 refine ct288 (ho _ _ _ (by decide) (by decide)) rfl ?_
 have hlen:∀ hh:List Ob,lenW cx hh 60 (.p p)=_:=fun hh=>frd_len H hh
 have n2:∀ {n:Int} {h dst t d r K Q},callW cx o dst t h d r (some (.fn 147 [.p (.int .i64 n),.p (.int .i64 2)])) K Q=K (put dst (.p (.str (numS n 2))) t) h d r:=call147 ho (w:=2) (by decide)
 have n6:∀ {n:Int} {h dst t d r K Q},callW cx o dst t h d r (some (.fn 147 [.p (.int .i64 n),.p (.int .i64 6)])) K Q=K (put dst (.p (.str (numS n 6))) t) h d r:=call147 ho (w:=6) (by decide)
 simp only[sc288r0,sc288r1,sc288r2,sc288r3,sc288r4,sc288d4_x,sc288r5,sc288r6,sc288r7,sc288r8,sc288r10,sc288r12,sc288,↓rwS,↓rwX,rwZ,rwT,rwG,Nat.reduceEqDiff,Nat.reduceAdd,reduceCtorEq,Nat.reduceLT,hlen,n2]
 refine xC_loop (fun n t h' d r=>∃ (i:Nat) (s:List UInt8),n=fs.length-i∧i≤fs.length∧(s.length:Int)=2+lsum fs i∧d=[]∧r=none∧t.get 0=.p p∧t.get 3=.p (.str s)∧t.get 4=.p (.int .i64 (i:Int))) fs.length ?_ ?_
 ·refine⟨0,numS fs.length 2,rfl,by omega,by rw[numS_len,lsum_0];rfl,rfl,rfl,?_⟩
  simp only[↓rwA,rwB,rwG,Nat.reduceEqDiff,Nat.reduceAdd,reduceCtorEq,Nat.reduceLT,true_and]
  first|rfl|exact trivial
 ·rintro n t h' d r ⟨i,s,rfl,hi,hs,rfl,rfl,t0,t3,t4⟩
  have w1:=one63 (show i+1<9223372036854775808 by omega)
  by_cases hlt:i<fs.length
  ·have e1:decide ((i:Int)<(fs.length:Int))=true:=decide_eq_true (by omega)
   have ai:=frd_at H hlt
   have hfo:=hF _ (frd_mem hlt)
   have hil:∀ hh:List Ob,lenW cx hh 23 (.p (fs.getD i Frd.z).p)=_:=fun hh=>i_len hfo.1 hh
   have hle:=lsum_le hP (n:=i) (by omega)
   have hn:=nos_len (hP i hlt).2.2.2
   have ad1:∀ (q:Bool) (n:Int),bin3 .add cx 9 q (.p (.str s)) (.p (.str (numS n 6)))=.w (.p (.str (s++numS n 6))):=fun q n=>add_s (by rw[numS_len];omega)
   have ad2:∀ (q:Bool) (n m:Int),bin3 .add cx 9 q (.p (.str (s++numS n 6))) (.p (.str (numS m 2)))=.w (.p (.str (s++numS n 6++numS m 2))):=fun q n m=>add_s (by rw[List.length_append,numS_len,numS_len];omega)
   simp only[sc288r0,sc288r1,sc288r2,sc288r3,sc288r4,sc288d4_x,sc288r5,sc288r6,sc288r7,sc288r8,sc288r10,sc288r12,sc288,sc288l11,↓rwC,rwD,rwI,Nat.reduceSub,Nat.reduceLeDiff,↓rwS,↓rwX,rwZ,rwT,rwG,Nat.reduceEqDiff,Nat.reduceAdd,reduceCtorEq,Nat.reduceLT,hlen,t0,t3,t4,e1,ai,fe_k,fe_k1,ld_ci,ld_q hfo.1,hil,n2,n6,ad1,ad2]
   refine list_in ho H hlt hfo hn (s0:=s++numS (fs.getD i Frd.z).v 6++numS ((fs.getD i Frd.z).l.length:Int) 2) (by rw[List.length_append,List.length_append,numS_len,numS_len];omega) ?_ ?_ ?_ ?_ (fun t' s' y0 y4 y3 hs'=>?_)
   ·simp only[Tm.get_set,Nat.reduceEqDiff,if_true,if_false,t0]
   ·simp only[Tm.get_set,Nat.reduceEqDiff,if_true,if_false]
   ·simp only[Tm.get_set,Nat.reduceEqDiff,if_true,if_false,t4]
   ·simp only[Tm.get_set,Nat.reduceEqDiff,if_true,if_false]
   ·simp only[↓rwS,↓rwX,rwZ,rwT,rwG,Nat.reduceEqDiff,Nat.reduceAdd,reduceCtorEq,Nat.reduceLT,w1,y0,y3,y4,blockP_exit,if_true,sc288r10,true_and]
    refine⟨_,?_,i+1,s',rfl,by omega,?_,?_⟩
    ·omega
    ·rw[List.length_append,List.length_append,numS_len,numS_len]at hs'
     rw[lsum_succ hlt];omega
    ·first|rfl|exact trivial|exact⟨rfl,rfl⟩
  ·have e1:decide ((i:Int)<(fs.length:Int))=false:=decide_eq_false (by omega)
   obtain rfl:i=fs.length:=by omega
   simp only[sc288r0,sc288r1,sc288r2,sc288r3,sc288r4,sc288d4_x,sc288r5,sc288r6,sc288r7,sc288r8,sc288r10,sc288r12,sc288,sc288l11,↓rwS,↓rwX,rwZ,rwT,rwG,Nat.reduceEqDiff,Nat.reduceAdd,reduceCtorEq,Nat.reduceLT,hlen,t0,t3,t4,e1]
   exact⟨s,rfl,hs⟩
theorem plain284{g:Pg} (I:g.ok):Ct cx o (.fn 284 [.p g.V]) [] (fun e _=>e=.ret (.p (.bool (plain2 g)))):=by
 refine ct284 (ho _ _ _ (by decide) (by decide)) rfl ?_
 have hlen:∀ hh:List Ob,lenW cx hh 59 (.p g.ep)=_:=fun hh=>ent_len I.he hh
 have hl9:∀ hh:List Ob,lenW cx hh 60 (.p g.fp)=_:=fun hh=>frd_len I.hf hh
 simp only[sc284r0,sc284r1,sc284r2,sc284r3,sc284r4,sc284,↓rwS,↓rwX,rwZ,rwT,rwG,Nat.reduceEqDiff,Nat.reduceAdd,reduceCtorEq,Nat.reduceLT,rwPg,hlen,hl9,List.nil_append,List.length_nil, *]
 repeat' (refine spl (fun hb=>?_) (fun hb=>?_)<;>try simp only[sc284r0,sc284r1,sc284r2,sc284r3,sc284r4,sc284,↓rwS,↓rwX,rwZ,rwT,rwG,Nat.reduceEqDiff,Nat.reduceAdd,reduceCtorEq,Nat.reduceLT,rwPg,hlen,hl9,List.nil_append,List.length_nil, *])
 all_goals(refine ret_bool ?_;unfold plain2;grind)
theorem call284{g:Pg} (I:g.ok) {h dst t d r K Q}:callW cx o dst t h d r (some (.fn 284 [.p g.V])) K Q=K (put dst (.p (.bool (plain2 g))) t) h d r:=callW_ret ext284 (cs_p (f:=284) (ps:=[g.V]) rfl (plain284 ho I))
end
section
variable {o:Orc} (ho:FreeT o)
include ho
set_option maxHeartbeats 8000000 in
theorem isPage247{g:Pg} (I:g.ok):Ct cx o (.fn 247 [.p g.V]) [] (fun e _=>e=.ret (.p (.bool g.isB))):=by
 refine ct247 (ho _ _ _ (by decide) (by decide)) rfl ?_
 have hl6:∀ hh:List Ob,lenW cx hh 59 (.p g.ep)=_:=fun hh=>ent_len I.he hh
 have hl9:∀ hh:List Ob,lenW cx hh 60 (.p g.fp)=_:=fun hh=>frd_len I.hf hh
 have hl8:∀ hh:List Ob,lenW cx hh 9 (.p (.str g.dt))=_:=fun hh=>len_str u9
 have hfit:fitsB g.es g.lv=true→(g.es.length:Int)≤496:=fits_le
 have hwc:=wcnt_le (fs:=g.fs) (n:=g.fs.length) (Nat.le_refl _)
 have hge:=lsum_ge (fs:=g.fs) (n:=g.fs.length) (Nat.le_refl _)
 cases hfr:freedB g.fs with
 |true=>
  obtain⟨e,h1,hr1,s,rfl,hs⟩:=list288 ho I.hf I.hF I.lf (by simpa [freedB]using hfr)
  have cl:∀ {h dst t d r K Q},callW cx o dst t h d r (some (.fn 288 [.p g.fp])) K Q=K (put dst (.p (.str s)) t) h d r:=callW_ret ext288 (cs_p (f:=288) (ps:=[g.fp]) rfl ⟨_,h1,hr1,rfl⟩)
  have hls:∀ hh:List Ob,lenW cx hh 9 (.p (.str s))=_:=fun hh=>len_str u9
  simp only[sc247r0,sc247r1,sc247r2,sc247r3,sc247r4,sc247r5,sc247r6,sc247r7,sc247r8,sc247r9,sc247r10,sc247r11,sc247,↓rwS,↓rwX,rwZ,rwT,rwG,Nat.reduceEqDiff,Nat.reduceAdd,reduceCtorEq,Nat.reduceLT,rwPg,call283 ho,call284 ho I,call285 ho I.he I.le,call286 ho I.hf I.hF I.lf,call287 ho I.hf I.hF I.lf hfr,cl,hl6,hl9,hl8,hls,eql_b,List.nil_append,List.length_nil,hfr, *]
  repeat' (refine spl (fun hb=>?_) (fun hb=>?_)<;>try simp only[sc247r0,sc247r1,sc247r2,sc247r3,sc247r4,sc247r5,sc247r6,sc247r7,sc247r8,sc247r9,sc247r10,sc247r11,sc247,↓rwS,↓rwX,rwZ,rwT,rwG,Nat.reduceEqDiff,Nat.reduceAdd,reduceCtorEq,Nat.reduceLT,rwPg,call283 ho,call284 ho I,call285 ho I.he I.le,call286 ho I.hf I.hF I.lf,call287 ho I.hf I.hF I.lf hfr,cl,hl6,hl9,hl8,hls,eql_b,List.nil_append,List.length_nil,hfr, *])
  all_goals(refine ret_bool ?_;unfold Pg.isB kindB plainB;unfold plain2 at *;unfold inR isNo at *;grind)
 |false=>
  simp only[sc247r0,sc247r1,sc247r2,sc247r3,sc247r4,sc247r5,sc247r6,sc247r7,sc247r8,sc247r9,sc247r10,sc247r11,sc247,↓rwS,↓rwX,rwZ,rwT,rwG,Nat.reduceEqDiff,Nat.reduceAdd,reduceCtorEq,Nat.reduceLT,rwPg,call283 ho,call284 ho I,call285 ho I.he I.le,call286 ho I.hf I.hF I.lf,hl6,hl9,hl8,eql_b,List.nil_append,List.length_nil,hfr, *]
  repeat' (refine spl (fun hb=>?_) (fun hb=>?_)<;>try simp only[sc247r0,sc247r1,sc247r2,sc247r3,sc247r4,sc247r5,sc247r6,sc247r7,sc247r8,sc247r9,sc247r10,sc247r11,sc247,↓rwS,↓rwX,rwZ,rwT,rwG,Nat.reduceEqDiff,Nat.reduceAdd,reduceCtorEq,Nat.reduceLT,rwPg,call283 ho,call284 ho I,call285 ho I.he I.le,call286 ho I.hf I.hF I.lf,hl6,hl9,hl8,eql_b,List.nil_append,List.length_nil,hfr, *])
  all_goals(refine ret_bool ?_;unfold Pg.isB kindB plainB;unfold plain2 at *;unfold inR isNo at *;grind)
theorem call247{g:Pg} (I:g.ok) {h dst t d r K Q}:callW cx o dst t h d r (some (.fn 247 [.p g.V])) K Q=K (put dst (.p (.bool g.isB)) t) h d r:=callW_ret ext247 (cs_p (f:=247) (ps:=[g.V]) rfl (isPage247 ho I))
end
end Go.Proofs

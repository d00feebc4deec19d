/- What is proved: contracts of the checks of pages, part 2; appending to a list of one's own. Conditions: as before. -/
import Derived.Test.YtepjcfcfpjhpgaaGreatDoorPC05
import Derived.Test.YtepjcfcfpjhpgaaGreatDoorPC04
set_option linter.all false
set_option maxRecDepth 100000
namespace Go.Proofs
open Go Go.Ai
theorem less_total:∀ (a b:List UInt8),(Op.bytesLess a b || decide (a=b)) = !Op.bytesLess b a:=by
 intro a
 induction a with
 |nil=>
  intro b
  cases b with
  |nil=>rfl
  |cons y b=>simp [Op.bytesLess]
 |cons x a ih=>
  intro b
  cases b with
  |nil=>simp [Op.bytesLess]
  |cons y b=>
   have h:=ih b
   unfold Op.bytesLess
   rcases Nat.lt_trichotomy x.toNat y.toNat with q|q|q
   ·have h1:x<y:=q
    have h2:¬ y<x:=fun k=>by have:y.toNat<x.toNat:=k;omega
    have h3:¬ y=x:=fun k=>by subst k;omega
    simp [h1,h2,h3]
   ·have h1:x=y:=UInt8.toNat_inj.1 q
    subst h1
    have h2:¬ x<x:=fun k=>by have:x.toNat<x.toNat:=k;omega
    simp [h2]
    simpa using h
   ·have h1:¬ x<y:=fun k=>by have:x.toNat<y.toNat:=k;omega
    have h2:y<x:=q
    have h3:¬ x=y:=fun k=>by subst k;omega
    simp [h1,h2,h3]
open Classical in
noncomputable def Ent.bq(e:Ent):Bool:=decide (e.v=[]∧e.ov=0∧e.ln=0∧isNo e.ch∧inR e.ct 1 2147483647)
section
variable {o:Orc} (ho:FreeT o)
include ho
end
theorem rem_i{c:Ctx} {ty:TypeId} {q:Bool} {a:Int}:bin3 .rem c ty q (.p (.int .i64 a)) (.p (.int .i64 256))=.w (.p (.int .i64 (a.tmod 256))):=by
 show cond (Nat.beq (knd .i64) (knd .i64)) (cond (eqI 256 0) .no (resI .i64 (a.tmod 256))) .no=_
 show resI .i64 (a.tmod 256)=_
 unfold resI
 rw[forceI_eq]
theorem quo_i{c:Ctx} {ty:TypeId} {q:Bool} {a:Int}:bin3 .quo c ty q (.p (.int .i64 a)) (.p (.int .i64 256))=.w (.p (.int .i64 (IntKind.wrap .i64 (a.tdiv 256)))):=by
 show cond (Nat.beq (knd .i64) (knd .i64)) (cond (eqI 256 0) .no (resI .i64 (wrapF .i64 (a.tdiv 256)))) .no=_
 show resI .i64 (wrapF .i64 (a.tdiv 256))=_
 unfold resI
 rw[forceI_eq,wrapF_eq]
def byteOf(n:Int):UInt8:=UInt8.ofNat (IntKind.wrap .u8 (n.tmod 256)).toNat
theorem byteOf_eq(n:Int):IntKind.wrap .u8 (n.tmod 256)=((byteOf n).toNat:Int):=by
 unfold byteOf
 rw[wrapU8_eq]
 have h1:0≤(n.tmod 256) % 256:=Int.emod_nonneg _ (by decide)
 have h2:(n.tmod 256) % 256<256:=Int.emod_lt_of_pos _ (by decide)
 have:((n.tmod 256) % 256).toNat<256:=by omega
 rw[UInt8.toNat_ofNat_of_lt' (by simpa using this)]
 omega
def numI(n:Int):Nat→Int×List UInt8
 |0=>(n,[])
 |k+1=>(IntKind.wrap .i64 ((numI n k).1.tdiv 256),byteOf (numI n k).1::(numI n k).2)
def numS(n:Int) (w:Nat):List UInt8:=(numI n w).2
theorem numI_len(n:Int) (k:Nat):(numI n k).2.length=k:=by
 induction k with
 |zero=>rfl
 |succ k ih=>unfold numI;simp [ih]
def numR(n:Int) (w k:Nat):List PV:=List.replicate (w-k) (.int .u8 0)++bytesPV (numI n k).2
theorem numR_len{n w k} (h:k≤w):(numR n w k).length=w:=by
 unfold numR bytesPV;simp [numI_len];omega
theorem numR_at{n:Int} {w k:Nat} (h:k<w):(numR n w k)[w-1-k]?=some (.int .u8 0):=by
 unfold numR
 rw[List.getElem?_append_left (by simp;omega),List.getElem?_replicate,if_pos (by omega)]
theorem numR_set{n:Int} {w k:Nat} (h:k<w):(numR n w k).set (w-1-k) (.int .u8 ((byteOf (numI n k).1).toNat:Int))=numR n w (k+1):=by
 unfold numR
 rw[List.set_append_left _ _ (by simp;omega)]
 have e1:(List.replicate (w-k) (PV.int .u8 0)).set (w-1-k) (.int .u8 ((byteOf (numI n k).1).toNat:Int))=List.replicate (w-(k+1)) (.int .u8 0)++[.int .u8 ((byteOf (numI n k).1).toNat:Int)]:=by
  have:w-k=(w-(k+1))+1:=by omega
  rw[this,List.replicate_succ']
  rw[List.set_append_right _ _ (by simp;omega)]
  simp
  rw[show w-1-k-(w-(k+1))=0 by omega];rfl
 rw[e1,List.append_assoc]
 rfl
theorem make_bytes{h:List Ob} {n:Nat} (hn:n<1000000):makeSlice? cx h 117 (.p (.int .i64 (n:Int))) (.p (.int .i64 (n:Int)))=.wn (.sl h.length 0 1 0 n) (.row 5 1 (List.replicate n (.int .u8 0)) true 0):=by
 obtain⟨i,hi,hs,hb⟩:∃ i,cx.info 5=some i∧i.size=1∧i.bytes=1:=by
  cases hq:cx.info 5 with
  |none=>
   have:(cx.info 5).isSome=true:=by kernel_rfl
   rw[hq]at this;cases this
  |some i=>
   have h1:(cx.info 5).map (fun i=>(i.size,i.bytes))=some (1,1):=by kernel_rfl
   rw[hq]at h1
   have:(i.size,i.bytes)=(1,1):=Option.some.inj h1
   exact⟨i,rfl,congrArg Prod.fst this,congrArg Prod.snd this⟩
 unfold makeSlice?
 simp only[u117]
 unfold onII onI
 simp only[hi,z5,a5]
 have:(!ltI (n:Int) 0 && !ltI (n:Int) (n:Int) && !ltI 140737488355328 (Int.mul i.bytes (n:Int))&&Nat.ble 1 i.bytes&&Nat.ble 1 i.size&&fitsA false i.size (.int .u8 0))=true:=by
  rw[hs,hb]
  simp only[ltI_eq]
  rw[decide_eq_false (show ¬((n:Int)<0) by omega),decide_eq_false (show ¬((n:Int)<(n:Int)) by omega),decide_eq_false (show ¬(140737488355328<Int.mul ((1:Nat):Int) (n:Int)) by show ¬(140737488355328<((1:Nat):Int)*(n:Int));omega)]
  rfl
 rw[this]
 simp only[cond,hs]
 unfold Ai.newRow
 simp only[forceN_eq,lnf_eq]
 rfl
section
variable {o:Orc} (ho:FreeT o)
include ho
theorem num147(n:Int) {w:Nat} (hw:w<1000):Ct cx o (.fn 147 [.p (.int .i64 n),.p (.int .i64 (w:Int))]) [] (fun e _=>e=.ret (.p (.str (numS n w)))):=by
 refine ct147 (ho _ _ _ (by decide)) rfl ?_
 have mk:=make_bytes (h:=[]) (n:=w) (by omega)
 have w0:IntKind.wrap .i64 ((w:Int)-1)=(w:Int)-1:=wrap64_id (by omega) (by omega)
 simp only[sc147r0,sc147r1,sc147r2,sc147r3,sc147r4,sc147r5,sc147r6,sc147r8,sc147,↓rwS,↓rwX,rwZ,rwT,rwG,Nat.reduceEqDiff,Nat.reduceAdd,reduceCtorEq,Nat.reduceLT,mk,w0,List.nil_append,List.length_nil]
 refine xC_loop (fun m t h' d r=>∃ k:Nat,m=w-k∧k≤w ∧ [Ob.row 5 1 (numR n w k) true 0]=h'∧d=[]∧r=none∧t.get 0=.p (.int .i64 (numI n k).1)∧t.get 5=.sl 0 0 1 0 w∧t.get 6=.p (.int .i64 ((w:Int)-1-(k:Int)))) w ?_ ?_
 ·refine⟨0,rfl,by omega,by unfold numR numI bytesPV;simp,rfl,rfl,?_⟩
  simp only[↓rwA,rwB,rwG,Nat.reduceEqDiff,Nat.reduceAdd,reduceCtorEq,Nat.reduceLT,true_and]
  first|exact⟨rfl,by simp⟩|exact⟨rfl,rfl,by simp⟩
 ·rintro m t h' d r ⟨k,rfl,hk,rfl,rfl,rfl,t0,t5,t6⟩
  by_cases hlt:k<w
  ·have e1:decide (0≤((w-1-k:Nat):Int))=true:=decide_eq_true (by omega)
   have e2:(w:Int)-1-(k:Int)=((w-1-k:Nat):Int):=by omega
   have ix:indexAddr? cx 117 (.sl 0 0 1 0 w) (.p (.int .i64 ((w-1-k:Nat):Int)))=some (.el 0 0 1 (w-1-k) 0):=by
    have hS:Sl [Ob.row 5 1 (numR n w k) true 0] 1 (.sl 0 0 1 0 w) (numR n w k):=by
     refine .sl (xs:=numR n w k) rfl ?_
     unfold sub?
     rw[numR_len hk,Nat.zero_add,Nat.ble_eq_true_of_le (Nat.le_refl _),List.drop_zero,List.take_of_length_le (by rw[numR_len hk];exact Nat.le_refl _)];rfl
    rw[hS.at u117 s5 (by omega) (by rw[numR_len hk];omega),Int.toNat_natCast]
    show some (AV.el 0 0 1 (0+(w-1-k)) 0)=_
    rw[Nat.zero_add]
   have st:store? cx [Ob.row 5 1 (numR n w k) true 0] 5 (.el 0 0 1 (w-1-k) 0) (.p (.int .u8 ((byteOf (numI n k).1).toNat:Int)))=.wh undefA [Ob.row 5 1 (numR n w (k+1)) true 0]:=by
    rw[store_el s5 rfl (numR_at hlt) (fun l q=>by cases q) rfl rfl,numR_set hlt];rfl
   have cv:∀ hh,conv3 cx hh 3 5 (.p (.int .i64 ((numI n k).1.tmod 256)))=.w (.p (.int .u8 ((byteOf (numI n k).1).toNat:Int))):=fun hh=>by rw[conv_int u3 u5,byteOf_eq]
   have w1:IntKind.wrap .i64 (((w-1-k:Nat):Int)-1)=((w-1-k:Nat):Int)-1:=wrap64_id (by omega) (by omega)
   simp only[sc147r0,sc147r1,sc147r2,sc147r3,sc147r4,sc147r5,sc147r6,sc147l7,sc147r8,sc147,↓rwC,rwD,rwI,Nat.reduceSub,Nat.reduceLeDiff,↓rwS,↓rwX,rwZ,rwT,rwG,Nat.reduceEqDiff,Nat.reduceAdd,reduceCtorEq,Nat.reduceLT,t0,t5,t6,e1,e2,ix,st,cv,rem_i,quo_i,w1,true_and]
   refine⟨_,?_,k+1,rfl,by omega,rfl,?_⟩
   ·omega
   ·refine⟨rfl,?_⟩;congr 2;omega
  ·have e1:decide (0≤(w:Int)-1-(k:Int))=false:=decide_eq_false (by omega)
   obtain rfl:k=w:=by omega
   have cb:∀ hh:List Ob,hh=[Ob.row 5 1 (numR n k k) true 0]→conv3 cx hh 117 9 (.sl 0 0 1 0 k)=.w (.p (.str (numS n k))):=fun hh q=>by
    subst q
    refine conv_bytes u117 u5 u9 rfl (fun q h=>by cases h) rfl ?_
    have hl:=numR_len (n:=n) (w:=k) (k:=k) (Nat.le_refl _)
    have:=elems_sl1 (h:=[Ob.row 5 1 (numR n k k) true 0]) (i:=0) (g:=0) (e:=5) (sz:=1) (xs:=numR n k k) (ex:=true) rfl
    rw[hl]at this
    rw[this]
    unfold numR numS;simp
   simp only[sc147r0,sc147r1,sc147r2,sc147r3,sc147r4,sc147r5,sc147r6,sc147l7,sc147r8,sc147,↓rwS,↓rwX,rwZ,rwT,rwG,Nat.reduceEqDiff,Nat.reduceAdd,reduceCtorEq,Nat.reduceLT,t0,t5,t6,e1,cb _ rfl]
end
def accV(l:List Int):CV:=cond l.isEmpty (.pv .nils) (.own 3 1 (ints l))
theorem accV_is(l:List Int):IsS 1 (accV l) (ints l):=by
 cases l with
 |nil=>exact .nil
 |cons a l=>exact .own _ _
structure AccI (h h':List Ob) (b:AV) (l:List Int):Prop where
 len:h.length≤h'.length
 keep:∀ j,j<h.length→hget h' j=hget h j
 own:Own h' 3 1 b (ints l)
 nil:l=[]→b=.p .nils
 new:∀ j∈ids1 b,h.length≤j
theorem AccI.start(h:List Ob):AccI h h (.p .nils) []:=⟨Nat.le_refl _,fun _ _=>rfl,.nil,fun _=>rfl,fun j hj=>(by cases hj)⟩
theorem AccI.ext{h h' b l} (A:AccI h h' b l):∃ ext,h'=h++ext:=ext_of A.len A.keep
theorem AccI.co{h h' b l} (A:AccI h h' b l):Co1 h' b (accV l):=by
 cases l with
 |nil=>rw[A.nil rfl];exact .p _
 |cons a m=>
  refine A.own.co1 ?_
  have:=A.own
  generalize hx:ints (a::m)=xs at this
  cases this with
  |nil=>cases hx
  |row=>intro q;cases q
theorem AccI.sl{h h' b l v m} (A:AccI h h' b l) (H:Sl h 1 v (ints m)):Sl h' 1 v (ints m):=by
 obtain⟨c,h1,h2⟩:=H.co
 exact H.keep fun j hj=>A.keep j (ids1_lt h1 j hj)
theorem AccI.app{h h' b l} {o:Orc} {x:Int} (A:AccI h h' b l) (hl:l.length<1000000) :
  ∃ b1 h1,AccI h h1 b1 (l++[x])∧buildSlice? cx h' 23 1 [(0,.p (.int .i64 x))]=.wh (.sl h'.length 0 1 0 1) (h'++[.row 3 1 [.int .i64 x] true 0]) ∧
   ∀ (op:Op) (dst:Option Tmp) (t:Tm) (d:List AD) (r:Option RM) (k:KP) (Q:Post),opW cx o none op dst t (h'++[.row 3 1 [.int .i64 x] true 0]) d r (append? cx (h'++[.row 3 1 [.int .i64 x] true 0]) 3 b (.sl h'.length 0 1 0 1)) k Q=k (put dst b1 t) h1 d r:=by
 have hb:=build1 (c:=cx) (h:=h') (v:=.int .i64 x) u23 s3 a3 z3 rfl rfl rfl
 obtain⟨b1,h1,a1,a2,a3',a4,a5,a6⟩:=app_own (c:=cx) (o:=o) (rd:=none) (A.own.ext [.row 3 1 [.int .i64 x] true 0]) s3 (by decide) (x:=.sl h'.length 0 1 0 1) (elems_sl1 (xs:=[.int .i64 x]) (hget_new _ _)) rfl (by simp) (room_le room3 (by rw[ints_length];simp;omega))
 refine⟨b1,h1,⟨?_,fun j hj=>?_,?_,fun q=>by simp at q,fun j hj=>?_⟩,hb,a6⟩
 ·rw[List.length_append]at a2;have:=A.len;omega
 ·rw[a3' j (by rw[List.length_append];have:=A.len;omega) (fun q=>by have:=A.new j q;omega),hget_app _ _ _ (by have:=A.len;omega),A.keep j hj]
 ·rw[ints_app];exact a1
 ·rcases a5 j hj with q|q
  ·exact A.new j q
  ·rw[List.length_append]at q;have:=A.len;omega
end Go.Proofs

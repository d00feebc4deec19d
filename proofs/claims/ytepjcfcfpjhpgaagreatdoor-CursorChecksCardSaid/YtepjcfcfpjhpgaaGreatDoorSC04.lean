/- What is proved: contracts of searches in lists of numbers. Conditions: the memory of calls holds no contract but those of the examples and of slices.Insert. -/
import Derived.Test.YtepjcfcfpjhpgaaGreatDoorSC01
import Derived.Test.YtepjcfcfpjhpgaaGreatDoorSC02
set_option linter.all false
set_option maxRecDepth 100000
namespace Go.Proofs
open Go Go.Ai
def FreeT(o:Orc):Prop:=∀ f args h,f ≠ 7→f ≠ 323→o f args h=none
structure Dig where
 (d0 d1 d2 d3 d4 d5 d6 d7 d8 d9 e0 e1 e2 e3 e4 e5:Int)
 deriving DecidableEq
def Dig.cs(d:Dig):List PV:=[.int .u8 d.d0,.int .u8 d.d1,.int .u8 d.d2,.int .u8 d.d3,.int .u8 d.d4,.int .u8 d.d5,.int .u8 d.d6,.int .u8 d.d7,.int .u8 d.d8,.int .u8 d.d9,.int .u8 d.e0,.int .u8 d.e1,.int .u8 d.e2,.int .u8 d.e3,.int .u8 d.e4,.int .u8 d.e5]
def Dig.z:Dig:=⟨0,0,0,0,0,0,0,0,0,0,0,0,0,0,0,0⟩
structure Ent where
 (k v:List UInt8)
 (ov ln ch ct:Int)
 sm:Dig
def Ent.cs(e:Ent):List PV:=[.str e.k,.str e.v,.int .i64 e.ov,.int .i64 e.ln,.int .i64 e.ch,.int .i64 e.ct,.int .u8 e.sm.d0,.int .u8 e.sm.d1,.int .u8 e.sm.d2,.int .u8 e.sm.d3,.int .u8 e.sm.d4,.int .u8 e.sm.d5,.int .u8 e.sm.d6,.int .u8 e.sm.d7,.int .u8 e.sm.d8,.int .u8 e.sm.d9,.int .u8 e.sm.e0,.int .u8 e.sm.e1,.int .u8 e.sm.e2,.int .u8 e.sm.e3,.int .u8 e.sm.e4,.int .u8 e.sm.e5]
def Ent.c(e:Ent):Ob:=.cells 64 (e.cs.map .p)
def Ent.V(e:Ent):PV:=.agg e.cs
section
variable {e:Ent} {l:List Ob} {i:Nat}
theorem ent_box:boxW l 64 (.p e.V)=.wn (.ptr l.length 0) e.c:=(rfl)
theorem ent_f0:fieldAddr? cx 64 (.ptr i 0) 0=some (.ptr i 0):=fieldAddr_ptr (m:=0) f64_0 s9
theorem ent_f1:fieldAddr? cx 64 (.ptr i 0) 1=some (.ptr i 1):=fieldAddr_ptr (m:=0) f64_1 s9
theorem ent_f2:fieldAddr? cx 64 (.ptr i 0) 2=some (.ptr i 2):=fieldAddr_ptr (m:=0) f64_2 s3
theorem ent_f3:fieldAddr? cx 64 (.ptr i 0) 3=some (.ptr i 3):=fieldAddr_ptr (m:=0) f64_3 s3
theorem ent_f4:fieldAddr? cx 64 (.ptr i 0) 4=some (.ptr i 4):=fieldAddr_ptr (m:=0) f64_4 s3
theorem ent_f5:fieldAddr? cx 64 (.ptr i 0) 5=some (.ptr i 5):=fieldAddr_ptr (m:=0) f64_5 s3
theorem ent_f6:fieldAddr? cx 64 (.ptr i 0) 6=some (.ptr i 6):=fieldAddr_ptr (m:=15) f64_6 s27
theorem ent_w:load? cx (e.c::l) 64 (.ptr 0 0)=some (.p e.V):=(load_whole a64 s64 rfl rfl).trans rfl
theorem ent_0:load? cx (e.c::l) 9 (.ptr 0 0)=some (.p (.str e.k)):=load_one a9 rfl rfl
theorem ent_1:load? cx (e.c::l) 9 (.ptr 0 1)=some (.p (.str e.v)):=load_one a9 rfl rfl
theorem ent_2:load? cx (e.c::l) 3 (.ptr 0 2)=some (.p (.int .i64 e.ov)):=load_one a3 rfl rfl
theorem ent_3:load? cx (e.c::l) 3 (.ptr 0 3)=some (.p (.int .i64 e.ln)):=load_one a3 rfl rfl
theorem ent_4:load? cx (e.c::l) 3 (.ptr 0 4)=some (.p (.int .i64 e.ch)):=load_one a3 rfl rfl
theorem ent_5:load? cx (e.c::l) 3 (.ptr 0 5)=some (.p (.int .i64 e.ct)):=load_one a3 rfl rfl
theorem ent_6:load? cx (e.c::l) 27 (.ptr 0 6)=some (.p (.agg e.sm.cs)):=(load_part a27 s27 rfl (by show 6+16≤22;decide)).trans rfl
end
def rwEn:=And.intro @ent_box <| And.intro @ent_f0 <| And.intro @ent_f1 <| And.intro @ent_f2 <| And.intro @ent_f3 <| And.intro @ent_f4 <| And.intro @ent_f5 <| And.intro @ent_f6 <| And.intro @ent_w <| And.intro @ent_0 <| And.intro @ent_1 <| And.intro @ent_2 <| And.intro @ent_3 <| And.intro @ent_4 <| And.intro @ent_5 @ent_6
theorem zdig:zero? cx 27=some (.agg Dig.z.cs):=by kernel_rfl
theorem zdig_c:(PV.agg Dig.z.cs).cells=Dig.z.cs:=(rfl)
theorem zdig_l{x:Ob}:load? cx [x,.cells 27 (Dig.z.cs.map .p)] 27 (.ptr 1 0)=some (.p (.agg Dig.z.cs)):=(load_whole a27 s27 rfl rfl).trans rfl
theorem eqE1{k n i:Nat} {a b:List PV} {x y:Int} (ha:a[i]?=some (.int .u8 x)) (hb:b[i]?=some (.int .u8 y)):eqEs cx (k+2) 5 1 a b (n+1) i=cond (decide (x=y)) (eqEs cx (k+1) 5 1 a b n (i+1)) (some false):=by
 have pa:∀ (l:List PV) (z:Int),l[i]?=some (.int .u8 z)→part? cx 5 l (i*1)=some (.int .u8 z):=fun l z h=>by
  unfold part?
  rw[a5]
  simp only[pget_eq,Nat.mul_one,h]
 conv=>lhs;unfold eqEs
 rw[pa _ _ ha,pa _ _ hb]
 simp only
 conv=>lhs;unfold eqT
 rw[u5]
 simp only[Nat.beq_refl,cond,eqI_eq]
 cases decide (x=y)<;>rfl
theorem cnd{p q:Prop} [Decidable p] [Decidable q]:cond (decide p) (some (decide q)) (some false)=some (decide (p∧q)):=by
 by_cases hp:p<;>by_cases hq:q<;>simp [hp,hq]
theorem eqEs_z{k:Nat} {a b:List PV} {i:Nat}:eqEs cx (k+1) 5 1 a b 0 i=some (decide True):=by unfold eqEs;rfl
theorem eqdig(a b:Dig):eqT cx 60 27 (.agg a.cs) (.agg b.cs)=some (decide (a=b)):=by
 have h:eqT cx 60 27 (.agg a.cs) (.agg b.cs)=eqEs cx 59 5 1 a.cs b.cs 16 0:=by
  unfold eqT
  rw[u27]
  simp only[s5]
 rw[h,eqE1 (x:=a.d0) (y:=b.d0) rfl rfl,eqE1 (x:=a.d1) (y:=b.d1) rfl rfl,eqE1 (x:=a.d2) (y:=b.d2) rfl rfl,eqE1 (x:=a.d3) (y:=b.d3) rfl rfl,eqE1 (x:=a.d4) (y:=b.d4) rfl rfl,eqE1 (x:=a.d5) (y:=b.d5) rfl rfl,eqE1 (x:=a.d6) (y:=b.d6) rfl rfl,eqE1 (x:=a.d7) (y:=b.d7) rfl rfl,eqE1 (x:=a.d8) (y:=b.d8) rfl rfl,eqE1 (x:=a.d9) (y:=b.d9) rfl rfl,eqE1 (x:=a.e0) (y:=b.e0) rfl rfl,eqE1 (x:=a.e1) (y:=b.e1) rfl rfl,eqE1 (x:=a.e2) (y:=b.e2) rfl rfl,eqE1 (x:=a.e3) (y:=b.e3) rfl rfl,eqE1 (x:=a.e4) (y:=b.e4) rfl rfl,eqE1 (x:=a.e5) (y:=b.e5) rfl rfl,eqEs_z]
 simp only[cnd]
 congr 1
 cases a;cases b
 simp only[Dig.mk.injEq,and_true]
theorem pl27:cx.plain 27=true:=by kernel_rfl
theorem eql_dig{q:Bool} {a b:Dig}:bin3 .eql cx 27 q (.p (.agg a.cs)) (.p (.agg b.cs))=.w (.p (.bool (decide (a=b)))):=by
 show(match eq? cx 27 q (.p (.agg a.cs)) (.p (.agg b.cs))with|some b=>resB b|none=>.no)=_
 have:eq? cx 27 q (.p (.agg a.cs)) (.p (.agg b.cs))=some (decide (a=b)):=by
  unfold eq?
  rw[u27]
  show cond (cx.plain 27) (eqT cx 60 27 (.agg a.cs) (.agg b.cs)) none=_
  rw[pl27,eqdig];rfl
 rw[this]
 cases decide (a=b)<;>rfl
def inR(n lo hi:Int):Prop:=lo≤n∧n≤hi
instance (n lo hi:Int):Decidable (inR n lo hi):=inferInstanceAs (Decidable (lo≤n∧n≤hi))
def isNo(n:Int):Prop:=2≤n∧n≤4095
instance (n:Int):Decidable (isNo n):=inferInstanceAs (Decidable (2≤n∧n≤4095))
section
variable {o:Orc} (ho:FreeT o)
include ho
theorem within211(n lo hi:Int):Ct cx o (.fn 211 [.p (.int .i64 n),.p (.int .i64 lo),.p (.int .i64 hi)]) [] (fun e _=>e=.ret (.p (.bool (decide (inR n lo hi))))):=by
 refine ct211 (ho _ _ _ (by decide) (by decide)) rfl ?_
 simp only[sc211r0,sc211r1,sc211,↓rwS,↓rwX,rwZ,rwT,rwG,Nat.reduceEqDiff,Nat.reduceAdd,reduceCtorEq,Nat.reduceLT, *]
 repeat' (refine spl (fun hb=>?_) (fun hb=>?_)<;>try simp only[sc211r0,sc211r1,sc211,↓rwS,↓rwX,rwZ,rwT,rwG,Nat.reduceEqDiff,Nat.reduceAdd,reduceCtorEq,Nat.reduceLT, *])
 all_goals(refine ret_bool ?_;unfold inR;grind)
theorem call211{n lo hi:Int} {h dst t d r K Q}:callW cx o dst t h d r (some (.fn 211 [.p (.int .i64 n),.p (.int .i64 lo),.p (.int .i64 hi)])) K Q=K (put dst (.p (.bool (decide (inR n lo hi)))) t) h d r:=callW_ret ext211 (cs_p (f:=211) (ps:=[.int .i64 n,.int .i64 lo,.int .i64 hi]) rfl (within211 ho n lo hi))
theorem num210(n:Int):Ct cx o (.fn 210 [.p (.int .i64 n)]) [] (fun e _=>e=.ret (.p (.bool (decide (isNo n))))):=by
 refine ct210 (ho _ _ _ (by decide) (by decide)) rfl ?_
 simp only[sc210r0,sc210r1,sc210,↓rwS,↓rwX,rwZ,rwT,rwG,Nat.reduceEqDiff,Nat.reduceAdd,reduceCtorEq,Nat.reduceLT,call211 ho, *]
 repeat' (refine spl (fun hb=>?_) (fun hb=>?_)<;>try simp only[sc210r0,sc210r1,sc210,↓rwS,↓rwX,rwZ,rwT,rwG,Nat.reduceEqDiff,Nat.reduceAdd,reduceCtorEq,Nat.reduceLT,call211 ho, *])
 all_goals(refine ret_bool ?_;unfold inR isNo;grind)
theorem call210{n:Int} {h dst t d r K Q}:callW cx o dst t h d r (some (.fn 210 [.p (.int .i64 n)])) K Q=K (put dst (.p (.bool (decide (isNo n)))) t) h d r:=callW_ret ext210 (cs_p (f:=210) (ps:=[.int .i64 n]) rfl (num210 ho n))
theorem linked214(n:Int):Ct cx o (.fn 214 [.p (.int .i64 n)]) [] (fun e _=>e=.ret (.p (.bool (decide (n=0∨isNo n))))):=by
 refine ct214 (ho _ _ _ (by decide) (by decide)) rfl ?_
 simp only[sc214r0,sc214r1,sc214,↓rwS,↓rwX,rwZ,rwT,rwG,Nat.reduceEqDiff,Nat.reduceAdd,reduceCtorEq,Nat.reduceLT,call210 ho, *]
 repeat' (refine spl (fun hb=>?_) (fun hb=>?_)<;>try simp only[sc214r0,sc214r1,sc214,↓rwS,↓rwX,rwZ,rwT,rwG,Nat.reduceEqDiff,Nat.reduceAdd,reduceCtorEq,Nat.reduceLT,call210 ho, *])
 all_goals(refine ret_bool ?_;grind)
def Ent.short(e:Ent):Prop:=e.ov=0∧e.ln=0∧e.ch=0∧e.ct=0∧e.sm=Dig.z∧e.v.length≤64
def Ent.long(e:Ent):Prop:=e.v=[]∧e.ch=0∧e.ct=0∧isNo e.ov∧inR e.ln 65 4000
def Ent.nest(e:Ent):Prop:=e.v=[]∧e.ov=0∧e.ln=0∧isNo e.ch∧inR e.ct 1 2147483647
def Ent.keyed(e:Ent):Prop:=inR e.k.length 1 48
open Classical in
noncomputable def Ent.form(e:Ent):Int:=if ¬e.keyed then 0 else if e.short then 1 else if e.long then 2 else if e.nest then 3 else 0
set_option maxHeartbeats 4000000 in
theorem form233(e:Ent):Ct cx o (.fn 233 [.p e.V]) [] (fun en _=>en=.ret (.p (.int .i64 e.form))):=by
 refine ct233 (ho _ _ _ (by decide) (by decide)) rfl ?_
 simp only[sc233r0,sc233r1,sc233r2,sc233r3,sc233r4,sc233r5,sc233r6,sc233r7,sc233r8,sc233r9,sc233r10,sc233r11,sc233r12,sc233,↓rwS,↓rwX,rwZ,rwT,rwG,Nat.reduceEqDiff,Nat.reduceAdd,reduceCtorEq,Nat.reduceLT,call211 ho,call210 ho,rwEn,List.nil_append,List.cons_append,List.length_nil,List.length_cons,zdig,zdig_c,zdig_l,eql_dig,len_str u9, *]
 repeat' (refine spl (fun hb=>?_) (fun hb=>?_)<;>try simp only[sc233r0,sc233r1,sc233r2,sc233r3,sc233r4,sc233r5,sc233r6,sc233r7,sc233r8,sc233r9,sc233r10,sc233r11,sc233r12,sc233,↓rwS,↓rwX,rwZ,rwT,rwG,Nat.reduceEqDiff,Nat.reduceAdd,reduceCtorEq,Nat.reduceLT,call211 ho,call210 ho,rwEn,List.nil_append,List.cons_append,List.length_nil,List.length_cons,zdig,zdig_c,zdig_l,eql_dig,len_str u9, *])
 all_goals(unfold Ent.form Ent.keyed Ent.short Ent.long Ent.nest;congr 3;grind)
end
def ints(l:List Int):List PV:=l.map (.int .i64)
theorem ints_length(l:List Int):(ints l).length=l.length:=List.length_map ..
theorem ints_getD{l:List Int} {k:Nat} (hk:k<l.length):(ints l).getD k .nilp=.int .i64 (l.getD k 0):=by
 unfold ints;simp [List.getD,hk]
theorem ints_app(l m:List Int):ints (l++m)=ints l++ints m:=List.map_append ..
theorem int_at{h v l} {k:Nat} {ty:TypeId} (H:Sl h 1 v (ints l)) (hu:cx.under ty=some (.slice 3)) (hk:k<l.length) :
  indexAddr? cx ty v (.p (.int .i64 (k:Int)))=some (rdS v k)∧load? cx h 3 (rdS v k)=some (.p (.int .i64 (l.getD k 0))):=by
 constructor
 ·rw[H.at hu s3 (by omega) (by rw[ints_length];omega),Int.toNat_natCast]
 ·have:=H.load (c:=cx) (e:=3) (k:=k) (by rw[ints_length];exact hk) (by rw[ints_getD hk];exact eok_int a3)
  rw[this,ints_getD hk]
section
variable {o:Orc} (ho:FreeT o)
include ho
theorem nan183(n:Int):Ct cx o (.fn 264 [.p (.int .i64 n)]) [] (fun e _=>e=.ret (.p (.bool false))):=by
 refine ct264 (ho _ _ _ (by decide) (by decide)) rfl ?_
 simp only[sc264,sc264r0,sc264r1,↓rwA,rwB,rwG,Nat.reduceEqDiff,Nat.reduceAdd,reduceCtorEq,Nat.reduceLT,decide_true]
theorem nan146(n:Int):Ct cx o (.fn 203 [.p (.int .i64 n)]) [] (fun e _=>e=.ret (.p (.bool false))):=by
 refine ct203 (ho _ _ _ (by decide) (by decide)) rfl ?_
 simp only[sc203,sc203r0,sc203r1,↓rwA,rwB,rwG,Nat.reduceEqDiff,Nat.reduceAdd,reduceCtorEq,Nat.reduceLT,decide_true]
theorem call183{n:Int} {h dst t d r k Q}:callW cx o dst t h d r (some (.fn 264 [.p (.int .i64 n)])) k Q=k (put dst (.p (.bool false)) t) h d r:=callW_ret ext264 (cs_p (f:=264) (ps:=[.int .i64 n]) rfl (nan183 ho n))
theorem call146{n:Int} {h dst t d r k Q}:callW cx o dst t h d r (some (.fn 203 [.p (.int .i64 n)])) k Q=k (put dst (.p (.bool false)) t) h d r:=callW_ret ext203 (cs_p (f:=203) (ps:=[.int .i64 n]) rfl (nan146 ho n))
theorem less145(a b:Int):Ct cx o (.fn 202 [.p (.int .i64 a),.p (.int .i64 b)]) [] (fun e _=>e=.ret (.p (.bool (decide (a<b))))):=by
 refine ct202 (ho _ _ _ (by decide) (by decide)) rfl ?_
 simp only[sc202,sc202r0,sc202r1,↓rwA,rwB,rwG,Nat.reduceEqDiff,Nat.reduceAdd,reduceCtorEq,Nat.reduceLT,call183 ho]
theorem call145{a b:Int} {h dst t d r k Q}:callW cx o dst t h d r (some (.fn 202 [.p (.int .i64 a),.p (.int .i64 b)])) k Q=k (put dst (.p (.bool (decide (a<b)))) t) h d r:=callW_ret ext202 (cs_p (f:=202) (ps:=[.int .i64 a,.int .i64 b]) rfl (less145 ho a b))
end
def Inc(l:List Int):Prop:=∀ i j,i<j→j<l.length→l.getD i 0<l.getD j 0
def lbn(l:List Int) (x:Int):Nat:=l.countP fun a=>decide (a<x)
theorem lbn_of{l:List Int} {x:Int} {i:Nat} (hi:i≤l.length) (h1:∀ k,k<i→l.getD k 0<x) (h2:∀ k,i≤k→k<l.length→x≤l.getD k 0):lbn l x=i:=by
 unfold lbn
 rw[← List.take_append_drop i l,List.countP_append]
 have e1:(l.take i).countP (fun a=>decide (a<x))=i:=by
  rw[List.countP_eq_length.2 ?_,List.length_take,Nat.min_eq_left hi]
  intro a ha
  obtain⟨k,hk⟩:=List.getElem?_of_mem ha
  rw[List.getElem?_take]at hk
  split at hk
  ·rename_i hki
   have:=h1 k hki
   rw[List.getD,hk]at this
   simpa using this
  ·cases hk
 have e2:(l.drop i).countP (fun a=>decide (a<x))=0:=by
  rw[List.countP_eq_zero]
  intro a ha
  obtain⟨k,hk⟩:=List.getElem?_of_mem ha
  rw[List.getElem?_drop]at hk
  have hl:=(List.getElem?_eq_some_iff.1 hk).1
  have:=h2 (i+k) (by omega) hl
  rw[List.getD,hk]at this
  simpa using this
 rw[e1,e2];rfl
theorem mem_lbn{l:List Int} {x:Int} {i:Nat} (hi:i≤l.length) (h1:∀ k,k<i→l.getD k 0<x) (h2:∀ k,i≤k→k<l.length→x≤l.getD k 0) (hs:Inc l):decide (x∈l)=(decide (i<l.length)&&decide (l.getD i 0=x)):=by
 rw[Bool.eq_iff_iff]
 simp only[decide_eq_true_eq,Bool.and_eq_true]
 constructor
 ·intro hx
  obtain⟨k,hk⟩:=List.getElem?_of_mem hx
  have hl:=(List.getElem?_eq_some_iff.1 hk).1
  have hg:l.getD k 0=x:=by rw[List.getD,hk];rfl
  have hik:i≤k:=by
   by_cases q:k<i
   ·have:=h1 k q;omega
   ·omega
  have hki:k=i:=by
   by_cases q:i<k
   ·have:=hs i k q hl
    have:=h2 i (Nat.le_refl _) (by omega)
    omega
   ·omega
  subst hki
  exact⟨hl,hg⟩
 ·rintro⟨h3,h4⟩
  rw[← h4,List.getD,List.getElem?_eq_getElem h3]
  exact List.getElem_mem h3
theorem shr_w1{c:Ctx} {ty:TypeId} {q:Bool} {a:Int}:bin3 .shr c ty q (.p (.int .u64 a)) (.p (.int .u64 1))=.w (.p (.int .u64 (a.fdiv 2))):=by
 show cond (ltI 1 0) .no (resI .u64 (a.fdiv (2 ^ (min (1:Int).toNat 64))))=_
 rw[ltI_eq,decide_eq_false (by omega)]
 exact resI_eq _ _
theorem mid_eq{a b:Nat} (h:a+b<4611686018427387904):IntKind.wrap .i64 ((IntKind.wrap .u64 (IntKind.wrap .i64 ((a:Int)+(b:Int)))).fdiv 2)=(((a+b) / 2:Nat):Int):=by
 rw[wrap64_id (n:=(a:Int)+(b:Int)) (by omega) (by omega),wrapU64_eq]
 have:((a:Int)+(b:Int)) % 18446744073709551616=((a+b:Nat):Int):=by omega
 rw[this]
 have:((a+b:Nat):Int).fdiv 2=(((a+b) / 2:Nat):Int):=by
  rw[Int.fdiv_eq_ediv_of_nonneg _ (by decide)];omega
 rw[this,wrap64_id (by omega) (by omega)]
theorem search107{o:Orc} (ho:FreeT o) {h v l} {x:Int} (H:Sl h 1 v (ints l)) (hs:Inc l) (hl:l.length<1000000000) :
  Ct cx o (.fn 131 [v,.p (.int .i64 x)]) h (fun e h'=>h'=h∧e=.ret (.tup [.p (.int .i64 (lbn l x:Nat)),.p (.bool (decide (x∈l)))])):=by
 refine ct131 (ho _ _ _ (by decide) (by decide)) rfl ?_
 simp only[sc131,sc131r0,sc131r1,sc131r2,rwU,rwV,↓rwA,rwB,rwG,Nat.reduceEqDiff,Nat.reduceAdd,reduceCtorEq,Nat.reduceLT,H.len u23,ints_length]
 refine xC_loop (fun n t h' d r=>∃ lo hi:Nat,n=hi-lo∧lo≤hi∧hi≤l.length∧(∀ k,k<lo→l.getD k 0<x)∧(∀ k,hi≤k→k<l.length→x≤l.getD k 0)∧d=[]∧r=none∧h'=h∧t.get 0=v∧t.get 1=.p (.int .i64 x)∧t.get 6=.p (.int .i64 (l.length:Nat))∧t.get 7=.p (.int .i64 (lo:Int))∧t.get 8=.p (.int .i64 (hi:Int))) l.length ?_ ?_
 ·refine⟨0,l.length,rfl,by omega,by omega,fun k hk=>by omega,fun k hk hk'=>by omega,rfl,rfl,rfl,?_⟩
  simp only[↓rwA,rwB,rwG,Nat.reduceEqDiff,Nat.reduceAdd,reduceCtorEq,Nat.reduceLT,true_and]
  exact⟨rfl,trivial⟩
 ·rintro n t h' d r ⟨lo,hi,rfl,h1,h2,h3,h4,rfl,rfl,rfl,t0,t1,t6,t7,t8⟩
  by_cases hlt:(lo:Int)<(hi:Int)
  ·have hm:=mid_eq (a:=lo) (b:=hi) (by omega)
   have hml:(lo+hi) / 2<l.length:=by omega
   obtain⟨ia,ld⟩:=int_at (k:=(lo+hi) / 2) H u23 hml
   have cv1:∀ hh m,conv3 cx hh 3 232 (.p (.int .i64 m))=.w (.p (.int .u64 (IntKind.wrap .u64 m))):=fun hh m=>conv_int u3 u232
   have cv2:∀ hh m,conv3 cx hh 232 3 (.p (.int .u64 m))=.w (.p (.int .i64 (IntKind.wrap .i64 m))):=fun hh m=>conv_int u232 u3
   have hw1:IntKind.wrap .i64 ((((lo+hi) / 2:Nat):Int)+1)=(((lo+hi) / 2+1:Nat):Int):=by rw[wrap64_id (by omega) (by omega)];omega
   by_cases hx:l.getD ((lo+hi) / 2) 0<x
   ·simp only[sc131l8,sc131r3,sc131r4,sc131r5,sc131r6,rwU,rwV,↓rwA,rwB,rwG,Nat.reduceEqDiff,Nat.reduceAdd,reduceCtorEq,Nat.reduceLT,t0,t1,t6,t7,t8,hlt,decide_true,cv1,cv2,shr_w1,hm,ia,ld,call145 ho,hx,hw1,true_and]
    refine⟨_,?_,(lo+hi) / 2+1,hi,rfl,by omega,h2,fun k hk=>?_,h4,?_⟩
    ·omega
    ·by_cases q:k=(lo+hi) / 2
     ·rw[q];exact hx
     ·have:=hs k ((lo+hi) / 2) (by omega) hml;omega
    ·first|rfl|exact⟨rfl,rfl⟩|exact trivial
   ·simp only[sc131l8,sc131r3,sc131r4,sc131r5,sc131r7,rwU,rwV,↓rwA,rwB,rwG,Nat.reduceEqDiff,Nat.reduceAdd,reduceCtorEq,Nat.reduceLT,t0,t1,t6,t7,t8,hlt,decide_true,decide_false,cv1,cv2,shr_w1,hm,ia,ld,call145 ho,hx,true_and]
    refine⟨_,?_,lo,(lo+hi) / 2,rfl,by omega,by omega,h3,fun k hk hk'=>?_,?_⟩
    ·omega
    ·by_cases q:k=(lo+hi) / 2
     ·rw[q];omega
     ·have:=hs ((lo+hi) / 2) k (by omega) hk';omega
    ·first|rfl|exact⟨rfl,rfl⟩|exact trivial
  ·have he:lo=hi:=by omega
   subst he
   have hlb:=lbn_of h2 h3 h4
   have hmem:=mem_lbn h2 h3 h4 hs
   by_cases hn:(lo:Int)<((l.length:Nat):Int)
   ·obtain⟨ia,ld⟩:=int_at (k:=lo) H u23 (by omega)
    by_cases hx:l.getD lo 0=x
    ·simp only[sc131l8,sc131r3,sc131r9,rwU,rwV,↓rwA,rwB,rwG,Nat.reduceEqDiff,Nat.reduceAdd,reduceCtorEq,Nat.reduceLT,t0,t1,t6,t7,t8,hlt,hn,decide_true,decide_false,ia,ld,hx,call146 ho,true_and]
     rw[hlb,hmem,decide_eq_true (show lo<l.length by omega),decide_eq_true hx];rfl
    ·simp only[sc131l8,sc131r3,sc131r9,rwU,rwV,↓rwA,rwB,rwG,Nat.reduceEqDiff,Nat.reduceAdd,reduceCtorEq,Nat.reduceLT,t0,t1,t6,t7,t8,hlt,hn,decide_true,decide_false,ia,ld,hx,call146 ho,true_and]
     rw[hlb,hmem,decide_eq_false hx,Bool.and_false]
   ·simp only[sc131l8,sc131r3,sc131r9,rwU,rwV,↓rwA,rwB,rwG,Nat.reduceEqDiff,Nat.reduceAdd,reduceCtorEq,Nat.reduceLT,t0,t1,t6,t7,t8,hlt,hn,decide_false,call146 ho,true_and]
    rw[hlb,hmem,decide_eq_false (show ¬lo<l.length by omega)]
    try rfl
theorem z62:zero? cx 62=some (.agg [.int .i64 0,.int .i64 0,.int .i64 0,.int .i64 0,.int .i64 0,.bool false,.nils,.int .i64 0,.str [],.nils]):=by kernel_rfl
theorem room79:room cx 62 1000000000=true:=by kernel_rfl
theorem z326:zero? cx 326=some (.agg [.int .i64 0]):=by kernel_rfl
theorem f326_0:(fieldOf cx 326 0).map (fun f=>(f.type,f.offset))=some (36,0):=by kernel_rfl
def failV(e:Int):PV:=.face 326 (.agg [.int .i64 e])
theorem b326(e:Int):build? cx 326 [(0,.p (.int .i64 e))]=some (.p (.agg [.int .i64 e])):=by kernel_rfl
theorem mf170(p:PV):mkFace cx 326 (.p p)=some (.p (.face 326 p)):=by kernel_rfl
section
variable {o:Orc} (ho:FreeT o)
include ho
theorem need53_t(e:Int):Ct cx o (.fn 158 [.p (.bool true),.p (.int .i64 e)]) [] (fun en _=>en=.ret (.tup [])):=by
 refine ct158 (ho _ _ _ (by decide) (by decide)) rfl ?_
 simp only[sc158,sc158r0,sc158r1,↓rwS,rwT,rwG,Nat.reduceEqDiff,Nat.reduceAdd,reduceCtorEq,Nat.reduceLT]
theorem need53_f(e:Int):Ct cx o (.fn 158 [.p (.bool false),.p (.int .i64 e)]) [] (fun en _=>en=.pan (.p (failV e))):=by
 refine ct158 (ho _ _ _ (by decide) (by decide)) rfl ?_
 simp only[sc158,sc158r0,sc158r1,↓rwS,rwT,rwG,Nat.reduceEqDiff,Nat.reduceAdd,reduceCtorEq,Nat.reduceLT,b326,mf170]
 first|exact⟨rfl,rfl⟩|trivial
theorem call53_t{e:Int} {h dst t d r k Q}:callW cx o dst t h d r (some (.fn 158 [.p (.bool true),.p (.int .i64 e)])) k Q=k (put dst (.tup []) t) h d r:=callW_ret ext158 (cs_p (f:=158) (ps:=[.bool true,.int .i64 e]) rfl (need53_t ho e))
theorem call53_f{e:Int} {h dst t d r k Q}:callW cx o dst t h d r (some (.fn 158 [.p (.bool false),.p (.int .i64 e)])) k Q=Q (.pan (.p (failV e))) t h d r:=callW_pan ext158 (cs_panP (f:=158) (ps:=[.bool false,.int .i64 e]) (need53_f ho e))
theorem clone103{h v cv l} (H:Co1 h v cv) (hs:IsS 1 cv (ints l)) (hl:l.length<1000000) :
  Ct cx o (.fn 129 [v]) h (fun e h1=>(∃ ext,h1=h++ext)∧CoE h1 e (.val (clV 3 1 cv (ints l)))∧(True→∃ v q,e=.ret v∧Co h1 v q∧∀ i∈idsA v,h.length≤i)):=by
 have hS:=H.sl' hs
 have hq:∀ b,bin3 .eql cx 23 b v (.p .nils)=_:=fun b=>sl_nilEq u23 H hs
 refine ct129 (ho _ _ _ (by decide) (by decide)) rfl ?_
 cases hn:cv.isNil
 ·have hcl:clV 3 1 cv (ints l)=.own 3 1 (ints l):=by unfold clV;rw[hn];rfl
  have hb:∀ hh:List Ob,buildSlice? cx hh 23 0 []=_:=fun hh=>build0 u23 s3 a3 z3
  obtain⟨v1,h1,a1,⟨j,g,a2,a2'⟩,a3',a4,a5,a6⟩:=app_any (c:=cx) (o:=o) (rd:=none) (h:=h++[.row 3 1 [] true 0]) (i:=h.length) (g:=0) (xs:=[]) (x:=v) (hget_new _ _) s3 (by decide) (hS.ext [.row 3 1 [] true 0]).elems (hS.ext [.row 3 1 [] true 0]).szIsB (room_le room3 (by rw[ints_length];simp;omega))
  simp only[List.length_nil,List.nil_append]at a1 a2 a6
  simp only[sc129,sc129r0,sc129r1,sc129r3,↓rwS,rwT,rwG,Nat.reduceEqDiff,Nat.reduceAdd,reduceCtorEq,Nat.reduceLT,hq,hn,hb,appW_sl u23 u23,a6]
  rw[hcl]
  refine⟨ext_of (by rw[List.length_append]at a3';exact Nat.le_of_succ_le a3') fun i hi=>?_,.val (.one ?_),fun _=>⟨_,_,rfl,.one (a1.co1 (by rw[a2];intro q;cases q)),?_⟩⟩
  ·rw[a4 i (by rw[List.length_append];exact Nat.lt_succ_of_lt hi) (by omega),hget_app _ _ _ hi]
  ·exact a1.co1 (by rw[a2];intro q;cases q)
  ·intro i hi
   rw[a2]at hi
   have hi:i ∈ [j]:=hi
   rw[List.mem_singleton.1 hi]
   rcases a2' with q|q
   ·omega
   ·rw[List.length_append]at q;omega
 ·have hcl:clV 3 1 cv (ints l)=.pv .nils:=by unfold clV;rw[hn];rfl
  simp only[sc129,sc129r0,sc129r1,sc129r2,↓rwS,rwT,rwG,Nat.reduceEqDiff,Nat.reduceAdd,reduceCtorEq,Nat.reduceLT,hq,hn]
  rw[hcl]
  exact⟨⟨[],by simp⟩,.val (.one (.p _)),fun _=>⟨_,_,rfl,.one (.p _),fun i hi=>(by cases hi)⟩⟩
theorem clone102{h v cv xs} (H:Co1 h v cv) (hs:IsS 10 cv xs) (hl:xs.length<1000000) :
  Ct cx o (.fn 128 [v]) h (fun e h1=>(∃ ext,h1=h++ext)∧CoE h1 e (.val (clV 62 10 cv xs))∧(True→∃ v q,e=.ret v∧Co h1 v q∧∀ i∈idsA v,h.length≤i)):=by
 have hS:=H.sl' hs
 have hq:∀ b,bin3 .eql cx 22 b v (.p .nils)=_:=fun b=>sl_nilEq u22 H hs
 refine ct128 (ho _ _ _ (by decide) (by decide)) rfl ?_
 cases hn:cv.isNil
 ·have hcl:clV 62 10 cv xs=.own 62 10 xs:=by unfold clV;rw[hn];rfl
  have hb:∀ hh:List Ob,buildSlice? cx hh 22 0 []=_:=fun hh=>build0 u22 s62 a62 z62
  obtain⟨v1,h1,a1,⟨j,g,a2,a2'⟩,a3',a4,a5,a6⟩:=app_any (c:=cx) (o:=o) (rd:=none) (h:=h++[.row 62 10 [] true 0]) (i:=h.length) (g:=0) (xs:=[]) (x:=v) (hget_new _ _) s62 (by decide) (hS.ext [.row 62 10 [] true 0]).elems (hS.ext [.row 62 10 [] true 0]).szIsB (room_le room79 (by simp;omega))
  simp only[List.length_nil,List.nil_append]at a1 a2 a6
  simp only[sc128,sc128r0,sc128r1,sc128r3,↓rwS,rwT,rwG,Nat.reduceEqDiff,Nat.reduceAdd,reduceCtorEq,Nat.reduceLT,hq,hn,hb,appW_sl u22 u22,a6]
  rw[hcl]
  refine⟨ext_of (by rw[List.length_append]at a3';exact Nat.le_of_succ_le a3') fun i hi=>?_,.val (.one ?_),fun _=>⟨_,_,rfl,.one (a1.co1 (by rw[a2];intro q;cases q)),?_⟩⟩
  ·rw[a4 i (by rw[List.length_append];exact Nat.lt_succ_of_lt hi) (by omega),hget_app _ _ _ hi]
  ·exact a1.co1 (by rw[a2];intro q;cases q)
  ·intro i hi
   rw[a2]at hi
   have hi:i ∈ [j]:=hi
   rw[List.mem_singleton.1 hi]
   rcases a2' with q|q
   ·omega
   ·rw[List.length_append]at q;omega
 ·have hcl:clV 62 10 cv xs=.pv .nils:=by unfold clV;rw[hn];rfl
  simp only[sc128,sc128r0,sc128r1,sc128r2,↓rwS,rwT,rwG,Nat.reduceEqDiff,Nat.reduceAdd,reduceCtorEq,Nat.reduceLT,hq,hn]
  rw[hcl]
  exact⟨⟨[],by simp⟩,.val (.one (.p _)),fun _=>⟨_,_,rfl,.one (.p _),fun i hi=>(by cases hi)⟩⟩
theorem call107{h v cv l} {x:Int} {dst t d r k Q} (H:Co1 h v cv) (hs:IsS 1 cv (ints l)) (hi:Inc l) (hl:l.length<1000000000) :
  callW cx o dst t h d r (some (.fn 131 [v,.p (.int .i64 x)])) k Q=k (put dst (.tup [.p (.int .i64 (lbn l x:Nat)),.p (.bool (decide (x∈l)))]) t) h d r:=
 callW_ret ext131 (cs_pure (ps:=[cv,.pv (.int .i64 x)]) (.cons (.one H) (.cons (.one (.p _)) .nil)) rfl fun h0 as0 H0=>by
  cases H0 with
  |cons h1 H1=>cases H1 with
   |cons h2 H2=>cases H2 with
    |nil=>
     have hv:=h1.sl' hs
     have:∀ {b},Co h0 b (.pv (.int .i64 x))→b=.p (.int .i64 x):=by
      intro b hb
      cases hb with
      |one hb=>cases hb;rfl
     rw[this h2]
     obtain⟨e,h',hr,rfl,rfl⟩:=search107 ho hv hi hl (x:=x)
     exact⟨_,_,hr,rfl,[],by simp⟩)
theorem has54{h v cv l} {x:Int} (H:Co1 h v cv) (hs:IsS 1 cv (ints l)) (hi:Inc l) (hl:l.length<1000000000) :
  Ct cx o (.fn 274 [v,.p (.int .i64 x)]) h (fun e h'=>h'=h∧e=.ret (.p (.bool (decide (x∈l))))):=by
 refine ct274 (ho _ _ _ (by decide) (by decide)) rfl ?_
 simp only[sc274,sc274r0,sc274r1,sc274r2,↓rwS,rwT,rwG,Nat.reduceEqDiff,Nat.reduceAdd,reduceCtorEq,Nat.reduceLT,call107 ho H hs hi hl,extractW,aget_eq']
 first|exact⟨rfl,rfl⟩|exact⟨trivial,rfl⟩|trivial
end
theorem rec47_ret{o:Orc} (n:Int):CtR cx o (.fn 156 [.ptr 0 0]) [.cells 36 [.p (.int .i64 n)]] .ret (fun e h' r'=>e=.ret (.tup [])∧h'=[.cells 36 [.p (.int .i64 n)]]∧r'=some .ret):=by
 refine ct_scR fn156 sc156_ok rfl rfl rfl sc156_dst ?_
 have e1:bin3 .eql cx 20 (isConst (.tmp 5) || isConst (.const .nilIface)) (.p .nili) (.p .nili)=.w (.p (.bool true)):=by kernel_rfl
 simp only[sc156,sc156r0,sc156r1,sc156r2,↓rwS,rwT,rwG,Nat.reduceEqDiff,Nat.reduceAdd,reduceCtorEq,Nat.reduceLT,e1,endPR_ret,endPR_n]
 refine⟨?_,?_,?_⟩<;>first|rfl|trivial
theorem rec47_pan{o:Orc} (n x:Int):CtR cx o (.fn 156 [.ptr 0 0]) [.cells 36 [.p (.int .i64 n)]] (.pan (.p (failV x)) false) (fun e h' r'=>e=.ret (.tup [])∧(∃ ext,h'=.cells 36 [.p (.int .i64 x)]::ext)∧r'=some (.pan (.p (failV x)) true)):=by
 refine ct_scR fn156 sc156_ok rfl rfl rfl sc156_dst ?_
 have e1:∀ b,bin3 .eql cx 20 b (.p (failV x)) (.p .nili)=.w (.p (.bool false)):=fun b=>by kernel_rfl
 have e2:typeAssert? cx 326 true (.p (failV x))=some (.tup [.p (.agg [.int .i64 x]),.p (.bool true)]):=by kernel_rfl
 have st:store? cx [.cells 36 [.p (.int .i64 n)],.cells 326 [.p (.int .i64 0)]] 326 (.ptr 1 0) (.p (.agg [.int .i64 x]))=.ws undefA 1 (.cells 326 [.p (.int .i64 x)]):=store_whole s326 rfl rfl rfl rfl
 have fa:fieldAddr? cx 326 (.ptr 1 0) 0=some (.ptr 1 0):=fieldAddr_ptr (m:=0) f326_0 s36
 have ld:load? cx [.cells 36 [.p (.int .i64 n)],.cells 326 [.p (.int .i64 x)]] 36 (.ptr 1 0)=some (.p (.int .i64 x)):=load_one a36 rfl rfl
 have st2:store? cx [.cells 36 [.p (.int .i64 n)],.cells 326 [.p (.int .i64 x)]] 36 (.ptr 0 0) (.p (.int .i64 x))=.ws undefA 0 (.cells 36 [.p (.int .i64 x)]):=store_one (cs:=[.p (.int .i64 n)]) s36 rfl rfl (by simp)
 simp only[sc156,sc156r0,sc156r1,sc156r3,sc156r4,sc156r5,↓rwS,rwT,rwG,Nat.reduceEqDiff,Nat.reduceAdd,reduceCtorEq,Nat.reduceLT,e1,e2,extractW,aget_eq',z326,PV.cells,List.map_cons,List.map_nil,List.getElem?_cons_zero,List.getElem?_cons_succ,List.length_cons,List.length_nil,st,List.cons_append,List.nil_append,hset2_1,fa,ld,st2,endPR_ret,endPR_n]
 refine⟨?_,?_,?_⟩<;>first|rfl|exact⟨_,rfl⟩|trivial
theorem one64{i:Nat} (h:i<4611686018427387904):IntKind.wrap .i64 ((i:Int)+1)=((i+1:Nat):Int):=by
 rw[wrap64_id (by omega) (by omega)];omega
theorem pred64{i:Nat} (h:i<4611686018427387904) (h0:0<i):IntKind.wrap .i64 ((i:Int)-1)=((i-1:Nat):Int):=by
 rw[wrap64_id (by omega) (by omega)];omega
def IncP(l:List Int) (n:Int):Prop:=∀ i,i<l.length→2≤l.getD i 0∧l.getD i 0<n∧(0<i→l.getD (i-1) 0<l.getD i 0)
noncomputable def incB(l:List Int) (n:Int):Bool:=@decide (IncP l n) (Classical.propDecidable _)
theorem incB_true{l n} (h:IncP l n):incB l n=true:=@decide_eq_true _ (Classical.propDecidable _) h
theorem incB_false{l n} (h:¬IncP l n):incB l n=false:=@decide_eq_false _ (Classical.propDecidable _) h
theorem IncP.inc{l n} (h:IncP l n):Inc l:=by
 intro i j hij hj
 induction j with
 |zero=>omega
 |succ j ih=>
  have:=(h (j+1) hj).2.2 (by omega)
  rw[Nat.add_sub_cancel]at this
  by_cases q:i=j
  ·subst q;exact this
  ·have:=ih (by omega) (by omega);omega
section
variable {o:Orc} (ho:FreeT o)
include ho
theorem has57{h v l} {x:Int} (H:Sl h 1 v (ints l)) (hl:l.length<1000000000) :
  Ct cx o (.fn 246 [v,.p (.int .i64 x)]) h (fun e h'=>h'=h∧e=.ret (.p (.bool (decide (x∈l))))):=by
 refine ct246 (ho _ _ _ (by decide) (by decide)) rfl ?_
 simp only[sc246r0,sc246r1,sc246r2,sc246r3,sc246r4,sc246r5,sc246r7,sc246,rwU,rwV,↓rwA,rwB,rwG,Nat.reduceEqDiff,Nat.reduceAdd,reduceCtorEq,Nat.reduceLT]
 refine xC_loop (fun n t h' d r=>∃ i:Nat,n=l.length-i∧i≤l.length∧(∀ k,k<i→l.getD k 0 ≠ x)∧d=[]∧r=none∧h'=h∧t.get 0=v∧t.get 1=.p (.int .i64 x)∧t.get 4=.p (.bool false)∧t.get 5=.p (.int .i64 (i:Int))) l.length ?_ ?_
 ·refine⟨0,rfl,by omega,fun k hk=>by omega,rfl,rfl,rfl,?_⟩
  simp only[↓rwA,rwB,rwG,Nat.reduceEqDiff,Nat.reduceAdd,reduceCtorEq,Nat.reduceLT,true_and]
  first|rfl|exact trivial
 ·rintro n t h' d r ⟨i,rfl,hi,hne,rfl,rfl,rfl,t0,t1,t4,t5⟩
  by_cases hlt:(i:Int)<((l.length:Nat):Int)
  ·obtain⟨ia,ld⟩:=int_at (k:=i) H u23 (by omega)
   by_cases hx:l.getD i 0=x
   ·simp only[sc246r0,sc246r1,sc246r2,sc246r3,sc246r4,sc246r5,sc246l6,sc246r7,sc246,rwU,rwV,↓rwA,rwB,rwG,Nat.reduceEqDiff,Nat.reduceAdd,reduceCtorEq,Nat.reduceLT,t0,t1,t4,t5,H.len u23,ints_length,hlt,decide_true,ia,ld,hx]
    have:decide (x∈l)=true:=decide_eq_true (by rw[← hx,List.getD,List.getElem?_eq_getElem (by omega)];exact List.getElem_mem _)
    rw[this]
    all_goals(first|exact⟨rfl,rfl⟩|exact⟨trivial,rfl⟩|trivial)
   ·simp only[sc246r0,sc246r1,sc246r2,sc246r3,sc246r4,sc246r5,sc246l6,sc246r7,sc246,rwU,rwV,↓rwA,rwB,rwG,Nat.reduceEqDiff,Nat.reduceAdd,reduceCtorEq,Nat.reduceLT,t0,t1,t4,t5,H.len u23,ints_length,hlt,decide_true,decide_false,ia,ld,hx,one64 (show i<4611686018427387904 by omega),true_and]
    refine⟨_,?_,i+1,rfl,by omega,fun k hk=>?_,?_⟩
    ·omega
    ·by_cases q:k=i
     ·rw[q];exact hx
     ·exact hne k (by omega)
    ·first|rfl|exact trivial
  ·have:decide (x∈l)=false:=decide_eq_false (by
    intro hx
    obtain⟨k,hk⟩:=List.getElem?_of_mem hx
    have hkl:=(List.getElem?_eq_some_iff.1 hk).1
    refine hne k (by omega) ?_
    rw[List.getD,hk];rfl)
   simp only[sc246r0,sc246r1,sc246r2,sc246r3,sc246r4,sc246r5,sc246l6,sc246r7,sc246,rwU,rwV,↓rwA,rwB,rwG,Nat.reduceEqDiff,Nat.reduceAdd,reduceCtorEq,Nat.reduceLT,t0,t1,t4,t5,H.len u23,ints_length,hlt,decide_false,this]
   all_goals(first|exact⟨rfl,rfl⟩|exact⟨trivial,rfl⟩|trivial)
theorem inc110{h v l} {n:Int} (H:Sl h 1 v (ints l)) (hl:l.length<1000000000) :
  Ct cx o (.fn 84 [v,.p (.int .i64 n)]) h (fun e h'=>h'=h∧e=.ret (.p (.bool (incB l n)))):=by
 refine ct84 (ho _ _ _ (by decide) (by decide)) rfl ?_
 simp only[sc84r0,sc84r1,sc84r2,sc84r3,sc84d3_x,sc84r4,sc84r5,sc84r7,sc84,rwU,rwV,↓rwA,rwB,rwG,Nat.reduceEqDiff,Nat.reduceAdd,reduceCtorEq,Nat.reduceLT]
 refine xC_loop (fun m t h' d r=>∃ i:Nat,m=l.length-i∧i≤l.length∧(∀ k,k<i→2≤l.getD k 0∧l.getD k 0<n∧(0<k→l.getD (k-1) 0<l.getD k 0))∧d=[]∧r=none∧h'=h∧t.get 0=v∧t.get 1=.p (.int .i64 n)∧t.get 4=.p (.bool false)∧t.get 5=.p (.int .i64 (i:Int))) l.length ?_ ?_
 ·refine⟨0,rfl,by omega,fun k hk=>by omega,rfl,rfl,rfl,?_⟩
  simp only[↓rwA,rwB,rwG,Nat.reduceEqDiff,Nat.reduceAdd,reduceCtorEq,Nat.reduceLT,true_and]
  first|rfl|exact trivial
 ·rintro m t h' d r ⟨i,rfl,hi,hok,rfl,rfl,rfl,t0,t1,t4,t5⟩
  by_cases hlt:(i:Int)<((l.length:Nat):Int)
  ·obtain⟨ia,ld⟩:=int_at (k:=i) H u23 (by omega)
   have w1:=one64 (show i<4611686018427387904 by omega)
   have bad:(¬(2≤l.getD i 0∧l.getD i 0<n∧(0<i→l.getD (i-1) 0<l.getD i 0)))→incB l n=false:=fun q=>incB_false fun hp=>q (hp i (by omega))
   by_cases h2:l.getD i 0<2
   ·simp only[sc84r0,sc84r1,sc84r2,sc84r3,sc84d3_x,sc84r4,sc84r5,sc84l6,sc84r7,sc84,rwU,rwV,↓rwA,rwB,rwG,Nat.reduceEqDiff,Nat.reduceAdd,reduceCtorEq,Nat.reduceLT,↓rwC,rwD,rwI,Nat.reduceSub,Nat.reduceLeDiff,t0,t1,t4,t5,H.len u23,ints_length,hlt,decide_true,ia,ld,h2,bad (by omega)]
    all_goals(first|exact⟨rfl,rfl⟩|exact⟨trivial,rfl⟩|trivial)
   ·by_cases h3:n≤l.getD i 0
    ·simp only[sc84r0,sc84r1,sc84r2,sc84r3,sc84d3_x,sc84r4,sc84r5,sc84l6,sc84r7,sc84,rwU,rwV,↓rwA,rwB,rwG,Nat.reduceEqDiff,Nat.reduceAdd,reduceCtorEq,Nat.reduceLT,↓rwC,rwD,rwI,Nat.reduceSub,Nat.reduceLeDiff,t0,t1,t4,t5,H.len u23,ints_length,hlt,decide_true,decide_false,ia,ld,h2,h3,bad (by omega)]
     all_goals(first|exact⟨rfl,rfl⟩|exact⟨trivial,rfl⟩|trivial)
    ·by_cases h4:(0:Int)<(i:Int)
     ·obtain⟨ib,lb⟩:=int_at (k:=i-1) H u23 (by omega)
      have w2:=pred64 (show i<4611686018427387904 by omega) (by omega)
      by_cases h5:l.getD i 0≤l.getD (i-1) 0
      ·simp only[sc84r0,sc84r1,sc84r2,sc84r3,sc84d3_x,sc84r4,sc84r5,sc84l6,sc84r7,sc84,rwU,rwV,↓rwA,rwB,rwG,Nat.reduceEqDiff,Nat.reduceAdd,reduceCtorEq,Nat.reduceLT,↓rwC,rwD,rwI,Nat.reduceSub,Nat.reduceLeDiff,t0,t1,t4,t5,H.len u23,ints_length,hlt,decide_true,decide_false,ia,ld,h2,h3,h4,w2,ib,lb,h5,bad (by omega)]
       all_goals(first|exact⟨rfl,rfl⟩|exact⟨trivial,rfl⟩|trivial)
      ·simp only[sc84r0,sc84r1,sc84r2,sc84r3,sc84d3_x,sc84r4,sc84r5,sc84l6,sc84r7,sc84,rwU,rwV,↓rwA,rwB,rwG,Nat.reduceEqDiff,Nat.reduceAdd,reduceCtorEq,Nat.reduceLT,↓rwC,rwD,rwI,Nat.reduceSub,Nat.reduceLeDiff,t0,t1,t4,t5,H.len u23,ints_length,hlt,decide_true,decide_false,ia,ld,h2,h3,h4,w2,ib,lb,h5,w1,true_and]
       refine⟨_,?_,i+1,rfl,by omega,fun k hk=>?_,?_⟩
       ·omega
       ·by_cases q:k=i
        ·rw[q];exact⟨by omega,by omega,fun _=>by omega⟩
        ·exact hok k (by omega)
       ·first|rfl|exact trivial
     ·simp only[sc84r0,sc84r1,sc84r2,sc84r3,sc84d3_x,sc84r4,sc84r5,sc84l6,sc84r7,sc84,rwU,rwV,↓rwA,rwB,rwG,Nat.reduceEqDiff,Nat.reduceAdd,reduceCtorEq,Nat.reduceLT,↓rwC,rwD,rwI,Nat.reduceSub,Nat.reduceLeDiff,t0,t1,t4,t5,H.len u23,ints_length,hlt,decide_true,decide_false,ia,ld,h2,h3,h4,w1,true_and]
      refine⟨_,?_,i+1,rfl,by omega,fun k hk=>?_,?_⟩
      ·omega
      ·by_cases q:k=i
       ·rw[q];exact⟨by omega,by omega,fun q=>by omega⟩
       ·exact hok k (by omega)
      ·first|rfl|exact trivial
  ·have:incB l n=true:=incB_true fun k hk=>hok k (by omega)
   simp only[sc84r0,sc84r1,sc84r2,sc84r3,sc84d3_x,sc84r4,sc84r5,sc84l6,sc84r7,sc84,rwU,rwV,↓rwA,rwB,rwG,Nat.reduceEqDiff,Nat.reduceAdd,reduceCtorEq,Nat.reduceLT,t0,t1,t4,t5,H.len u23,ints_length,hlt,decide_false,this]
   all_goals(first|exact⟨rfl,rfl⟩|exact⟨trivial,rfl⟩|trivial)
end
end Go.Proofs

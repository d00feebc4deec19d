/- What is proved: contracts of the reader of bytes and of an item that is read. Conditions: texts are short. -/
import Derived.Test.YtepjcfcfpjhpgaaGreatDoorPD01
import Derived.Test.YtepjcfcfpjhpgaaGreatDoorPA12
set_option linter.all false
set_option maxRecDepth 100000
namespace Go.Proofs
open Go Go.Ai
def failP(e:Int):PV:=.face 235 (.agg [.int .i64 e])
theorem b235(e:Int):build? cx 235 [(0,.p (.int .i64 e))]=some (.p (.agg [.int .i64 e])):=by kernel_rfl
theorem mf235(p:PV):mkFace cx 235 (.p p)=some (.p (.face 235 p)):=by kernel_rfl
def rdC(s:List UInt8) (a:Nat):List PV:=[.str s,.int .i64 (a:Int)]
def rdO(s:List UInt8) (a:Nat):Ob:=.cells 124 ((rdC s a).map .p)
theorem f122_0:(fieldOf cx 122 0).map (fun f=>(f.type,f.offset))=some (9,0):=by kernel_rfl
theorem f122_1:(fieldOf cx 122 1).map (fun f=>(f.type,f.offset))=some (3,1):=by kernel_rfl
theorem f124_0:(fieldOf cx 124 0).map (fun f=>(f.type,f.offset))=some (122,0):=by kernel_rfl
theorem fp122_0(k:Nat):fieldAddr? cx 122 (.ptr k 0) 0=some (.ptr k 0):=fieldAddr_ptr (m:=0) f122_0 s9
theorem fp122_1(k:Nat):fieldAddr? cx 122 (.ptr k 0) 1=some (.ptr k 1):=fieldAddr_ptr (m:=0) f122_1 s3
theorem fp124_0(k:Nat):fieldAddr? cx 124 (.ptr k 0) 0=some (.ptr k 0):=fieldAddr_ptr (m:=1) f124_0 s122
theorem rd_0{h:List Ob} {i s a} (hi:hget h i=rdO s a):load? cx h 9 (.ptr i 0)=some (.p (.str s)):=load_one a9 hi rfl
theorem rd_1{h:List Ob} {i s a} (hi:hget h i=rdO s a):load? cx h 3 (.ptr i 1)=some (.p (.int .i64 (a:Int))):=load_one a3 hi rfl
theorem rd_st{h:List Ob} {i s a} {n:Nat} (hi:hget h i=rdO s a):store? cx h 3 (.ptr i 1) (.p (.int .i64 (n:Int)))=.ws undefA i (rdO s n):=
 (store_one s3 hi rfl (show 1<2 by decide)).trans rfl
section
variable {o:Orc} (ho:FreeT o)
include ho
theorem need60_t(e:Int):Ct cx o (.fn 60 [.p (.bool true),.p (.int .i64 e)]) [] (fun en _=>en=.ret (.tup [])):=by
 refine ct60 (ho _ _ _ (by decide)) rfl ?_
 simp only[sc60r0,sc60r1,sc60,↓rwS,↓rwX,rwZ,rwT,rwG,Nat.reduceEqDiff,Nat.reduceAdd,reduceCtorEq,Nat.reduceLT, *]
 repeat' (refine spl (fun hb=>?_) (fun hb=>?_)<;>try simp only[sc60r0,sc60r1,sc60,↓rwS,↓rwX,rwZ,rwT,rwG,Nat.reduceEqDiff,Nat.reduceAdd,reduceCtorEq,Nat.reduceLT, *])
theorem need60_f(e:Int):Ct cx o (.fn 60 [.p (.bool false),.p (.int .i64 e)]) [] (fun en _=>en=.pan (.p (failP e))):=by
 refine ct60 (ho _ _ _ (by decide)) rfl ?_
 simp only[sc60r0,sc60r1,sc60,↓rwS,↓rwX,rwZ,rwT,rwG,Nat.reduceEqDiff,Nat.reduceAdd,reduceCtorEq,Nat.reduceLT,b235,mf235, *]
 repeat' (refine spl (fun hb=>?_) (fun hb=>?_)<;>try simp only[sc60r0,sc60r1,sc60,↓rwS,↓rwX,rwZ,rwT,rwG,Nat.reduceEqDiff,Nat.reduceAdd,reduceCtorEq,Nat.reduceLT,b235,mf235, *])
 first|exact⟨rfl,rfl⟩|trivial|rfl
theorem c60_t{e:Int} {h dst t d r k Q}:callW cx o dst t h d r (some (.fn 60 [.p (.bool true),.p (.int .i64 e)])) k Q=k (put dst (.tup []) t) h d r:=callW_ret ext60 (cs_p (f:=60) (ps:=[.bool true,.int .i64 e]) rfl (need60_t ho e))
theorem c60_f{e:Int} {h dst t d r k Q}:callW cx o dst t h d r (some (.fn 60 [.p (.bool false),.p (.int .i64 e)])) k Q=Q (.pan (.p (failP e))) t h d r:=callW_pan ext60 (cs_panP (f:=60) (ps:=[.bool false,.int .i64 e]) (need60_f ho e))
theorem take148_t{s:List UInt8} {a n:Nat} (hn:a+n≤s.length) (hl:s.length<100000000):Ct cx o (.fn 148 [.ptr 0 0,.p (.int .i64 (n:Int))]) [rdO s a] (fun e h1=>e=.ret (.p (.str ((s.drop a).take n)))∧h1=[rdO s (a+n)]):=by
 refine ct148 (ho _ _ _ (by decide)) rfl ?_
 have x0:=rd_0 (h:=[rdO s a]) (i:=0) rfl
 have x1:=rd_1 (h:=[rdO s a]) (i:=0) rfl
 have st:=rd_st (h:=[rdO s a]) (i:=0) (s:=s) (a:=a) (n:=a+n) rfl
 have y0:=rd_0 (h:=[rdO s (a+n)]) (i:=0) rfl
 have y1:=rd_1 (h:=[rdO s (a+n)]) (i:=0) rfl
 have w1:IntKind.wrap .i64 ((s.length:Int)-(a:Int))=((s.length-a:Nat):Int):=by rw[wrap64_id (by omega) (by omega)];omega
 have w2:IntKind.wrap .i64 ((a:Int)+(n:Int))=((a+n:Nat):Int):=by rw[wrap64_id (by omega) (by omega)];omega
 have w3:IntKind.wrap .i64 (((a+n:Nat):Int)-(n:Int))=(a:Int):=by rw[wrap64_id (by omega) (by omega)];omega
 have e1:decide ((n:Int)≤((s.length-a:Nat):Int))=true:=decide_eq_true (by omega)
 have hsl:∀ hh,sliceW cx hh 9 (.p (.str s)) (some (.p (.int .i64 (a:Int)))) (some (.p (.int .i64 ((a+n:Nat):Int))))=.w (.p (.str ((s.drop a).take n))):=fun hh=>by
  rw[slice_str' u9 (bnd_some (by omega) (by omega)) (bnd_some (by omega) (by omega)),Int.toNat_natCast,Int.toNat_natCast,List.drop_take]
  congr 4;omega
 have hh:hset [rdO s a] 0 (rdO s (a+n))=[rdO s (a+n)]:=rfl
 simp only[sc148r0,sc148r1,sc148d1_x,sc148r2,sc148r3,sc148d3_x,sc148,↓rwS,↓rwX,rwZ,rwT,rwG,Nat.reduceEqDiff,Nat.reduceAdd,reduceCtorEq,Nat.reduceLT,↓rwC,rwD,rwI,Nat.reduceSub,Nat.reduceLeDiff,LW_bt,LW_bf,true_and,fp122_0,fp122_1,opD_nilCheck,nilW_ptr,w1,w2,w3,c60_t ho, *]
 repeat' (refine spl (fun hb=>?_) (fun hb=>?_)<;>try simp only[sc148r0,sc148r1,sc148d1_x,sc148r2,sc148r3,sc148d3_x,sc148,↓rwS,↓rwX,rwZ,rwT,rwG,Nat.reduceEqDiff,Nat.reduceAdd,reduceCtorEq,Nat.reduceLT,↓rwC,rwD,rwI,Nat.reduceSub,Nat.reduceLeDiff,LW_bt,LW_bf,true_and,fp122_0,fp122_1,opD_nilCheck,nilW_ptr,w1,w2,w3,c60_t ho, *])
theorem take148_f{s:List UInt8} {a n:Nat} (hn:s.length<a+n) (ha:a≤s.length) (hl:s.length<100000000):Ct cx o (.fn 148 [.ptr 0 0,.p (.int .i64 (n:Int))]) [rdO s a] (fun e h1=>e=.pan (.p (failP 2))∧h1=[rdO s a]):=by
 refine ct148 (ho _ _ _ (by decide)) rfl ?_
 have x0:=rd_0 (h:=[rdO s a]) (i:=0) rfl
 have x1:=rd_1 (h:=[rdO s a]) (i:=0) rfl
 have w1:IntKind.wrap .i64 ((s.length:Int)-(a:Int))=((s.length-a:Nat):Int):=by rw[wrap64_id (by omega) (by omega)];omega
 have e1:decide ((n:Int)≤((s.length-a:Nat):Int))=false:=decide_eq_false (by omega)
 simp only[sc148r0,sc148r1,sc148d1_x,sc148r2,sc148r3,sc148d3_x,sc148,↓rwS,↓rwX,rwZ,rwT,rwG,Nat.reduceEqDiff,Nat.reduceAdd,reduceCtorEq,Nat.reduceLT,↓rwC,rwD,rwI,Nat.reduceSub,Nat.reduceLeDiff,LW_bt,LW_bf,true_and,fp122_0,fp122_1,opD_nilCheck,nilW_ptr,w1,c60_f ho,drawE_pan, *]
 repeat' (refine spl (fun hb=>?_) (fun hb=>?_)<;>try simp only[sc148r0,sc148r1,sc148d1_x,sc148r2,sc148r3,sc148d3_x,sc148,↓rwS,↓rwX,rwZ,rwT,rwG,Nat.reduceEqDiff,Nat.reduceAdd,reduceCtorEq,Nat.reduceLT,↓rwC,rwD,rwI,Nat.reduceSub,Nat.reduceLeDiff,LW_bt,LW_bf,true_and,fp122_0,fp122_1,opD_nilCheck,nilW_ptr,w1,c60_f ho,drawE_pan, *])
end
end Go.Proofs
namespace Go.Ai
theorem cs_cellV{c:Ctx} {o:Orc} {h:List Ob} {f:FuncId} {q:PV} {en:AEnd} {i:Nat} {e0:TypeId} {cs cs':List PV} (hi:hget h i=.cells e0 (cs.map .p)) (he:(∃ v,en=.ret (.p v))∨∃ v,en=.pan (.p v))
  (run:Ct c o (.fn f [.ptr 0 0,.p q]) [.cells e0 (cs.map .p)] fun e h1=>e=en∧∃ ext,h1=.cells e0 (cs'.map .p)::ext) :
  CS c o (.fn f [.ptr i 0,.p q]) h en (hset h i (.cells e0 (cs'.map .p))):=by
 obtain⟨e',h1',⟨k0,h0⟩,rfl,ext,rfl⟩:=run
 refine⟨k0,fun k hk F=>?_⟩
 have hil:i<h.length:=by
  rw[hget_eq]at hi
  by_cases q:i<h.length
  ·exact q
  ·rw[List.getElem?_eq_none (by omega)]at hi;cases hi
 have hr0:inR h [i] i 0=some (0,0):=by
  unfold inR
  rw[posOf_of (l:=[i]) (j:=0) (by simp) rfl]
  simp only[hi];rfl
 unfold inner
 show(addNew (idsRM none [i]) [] fun s=>reach h 10000 0 s fun s=>lnf (ltN h.length s) fun ks=>innerGo (callN c o k) h ks (.fn f [.ptr i 0,.p q]) none F none)=_
 have hidm:idsRM none [i]=[i]:=by
  rfl
 rw[hidm,addNew_cons,show elemN i []=false from rfl]
 simp only[cond,lnf_eq,List.nil_append]
 rw[addNew_nil]
 have hreach:∀ G:List Nat→Option Out,reach h 10000 0 [i] G=G [i]:=by
  intro G
  show(addNew (obIds (hget h i) []) [i] fun s=>forceN (0+1) fun n=>reach h 9999 n s G)=_
  rw[hi]
  show(addNew (idsL (cs.map .p) []) [i] _)=_
  rw[idsL_pures,addNew_nil,forceN_eq]
  exact reach_flat' h G 9999 1 [i] (fun j hj=>by cases hj)
 rw[hreach,ltN_all (by intro j hj;rw[List.mem_singleton.1 hj];exact hil)]
 unfold innerGo
 have hren:renCallee (inR h [i]) (.fn f [.ptr i 0,.p q])=some (.fn f [.ptr 0 0,.p q]):=by
  show some (Callee'.fn f [ren0 (inR h [i]) i (fun j=>AV.ptr j 0) .un,.p q])=_
  unfold ren0
  rw[hr0];rfl
 rw[renCalleeK_eq,hren]
 simp only
 rw[pickK_eq,renRMK_eq]
 have hpick:pick (inR h [i]) h hget [i]=[.cells e0 (cs.map .p)]:=by
  rw[pick_cons,hi]
  show [Ob.cells e0 (renl (inR h [i]) (cs.map .p))]=_
  rw[renl_pures]
 rw[hpick]
 show(match callN c o k (.fn f [.ptr 0 0,.p q]) [.cells e0 (cs.map .p)] none with
  |none=>none
  |some x=>innerBack h [i] x F none)=_
 rw[h0 k hk]
 simp only
 unfold innerBack
 simp only[lnf_eq]
 rw[show List.take ([i]:List Nat).length (Ob.cells e0 (cs'.map .p)::ext)=[.cells e0 (cs'.map .p)]from rfl]
 have hback:backOk h [i] [.cells e0 (cs'.map .p)]=true:=by
  show cond (Nat.beq (obGen (hget h i)) 0) true false=true
  rw[hi];rfl
 rw[hback]
 simp only[cond]
 have hids:idsEnd e' (flatIds [.cells e0 (cs'.map .p)] (idsRM none []))=[]:=by
  rcases he with⟨v,rfl⟩|⟨v,rfl⟩
  ·show idsL (cs'.map .p) []=[]
   exact idsL_pures _
  ·show idsL (cs'.map .p) []=[]
   exact idsL_pures _
 rw[hids,addNew_nil,reach_flat' _ _ _ _ _ (by intro j hj;cases hj)]
 rw[renEndK_eq,renRMK_eq,putBackK_eq,pickK_eq]
 have hfin:∀ r:RenF,renEnd r e'=e':=fun r=>by rcases he with⟨v,rfl⟩|⟨v,rfl⟩<;>rfl
 show F (CR.mk (renEnd _ e') (hset h i (.cells e0 (renl _ (cs'.map .p)))++[]) none)=_
 rw[renl_pures,List.append_nil,hfin]
end Go.Ai
namespace Go.Proofs
open Go Go.Ai
theorem shl_8{c:Ctx} {ty:TypeId} {q:Bool} {a:Int}:bin3 .shl c ty q (.p (.int .i64 a)) (.p (.int .u64 8))=.w (.p (.int .i64 (IntKind.wrap .i64 (a*256)))):=by
 show cond (ltI 8 0) .no (resI .i64 (wrapF .i64 (a*(2 ^ (min (8:Int).toNat 64)))))=_
 rw[ltI_eq,decide_eq_false (by omega),wrapF_eq]
 exact resI_eq _ _
theorem or_byte{c:Ctx} {ty:TypeId} {q:Bool} {m b:Nat} (hm:m<4294967296) (hb:b<256):bin3 .or c ty q (.p (.int .i64 ((m*256:Nat):Int))) (.p (.int .i64 (b:Int)))=.w (.p (.int .i64 ((m*256+b:Nat):Int))):=by
 show cond (Nat.beq (knd .i64) (knd .i64)) (resI .i64 (IntKind.wrap .i64 ((BitVec.ofInt (IntKind.bits .i64) ((m*256:Nat):Int) ||| BitVec.ofInt (IntKind.bits .i64) (b:Int)).toNat:Int))) .no=_
 have e:(BitVec.ofInt (IntKind.bits .i64) ((m*256:Nat):Int) ||| BitVec.ofInt (IntKind.bits .i64) (b:Int)).toNat=m*256+b:=by
  show(BitVec.ofInt 64 ((m*256:Nat):Int) ||| BitVec.ofInt 64 (b:Int)).toNat=m*256+b
  rw[BitVec.toNat_or,BitVec.ofInt_natCast,BitVec.ofInt_natCast,BitVec.toNat_ofNat,BitVec.toNat_ofNat,Nat.mod_eq_of_lt (by omega),Nat.mod_eq_of_lt (by omega)]
  have:=Nat.shiftLeft_add_eq_or_of_lt (a:=m) (b:=b) (i:=8) (by omega)
  rw[Nat.shiftLeft_eq,show(2:Nat) ^ 8=256 from rfl]at this
  omega
 rw[e]
 show resI .i64 _=_
 rw[resI_eq,wrap64_id (by omega) (by omega)]
section
variable {o:Orc} (ho:FreeT o)
include ho
theorem c148_t{h:List Ob} {i:Nat} {s:List UInt8} {a n:Nat} (hi:hget h i=rdO s a) (hn:a+n≤s.length) (hl:s.length<100000000) {dst t d r k Q} :
  callW cx o dst t h d r (some (.fn 148 [.ptr i 0,.p (.int .i64 (n:Int))])) k Q=k (put dst (.p (.str ((s.drop a).take n))) t) (hset h i (rdO s (a+n))) d r:=
 callW_ret ext148 (cs_cellV (cs:=rdC s a) (cs':=rdC s (a+n)) hi (.inl ⟨_,rfl⟩) (by
  obtain⟨e,h',hr,h1,h2⟩:=take148_t ho hn hl
  exact⟨e,h',hr,h1,[],h2⟩))
theorem c148_f{h:List Ob} {i:Nat} {s:List UInt8} {a n:Nat} (hi:hget h i=rdO s a) (hn:s.length<a+n) (ha:a≤s.length) (hl:s.length<100000000) {dst t d r k Q} :
  callW cx o dst t h d r (some (.fn 148 [.ptr i 0,.p (.int .i64 (n:Int))])) k Q=Q (.pan (.p (failP 2))) t (hset h i (rdO s a)) d r:=
 callW_pan ext148 (cs_cellV (cs:=rdC s a) (cs':=rdC s a) hi (.inr ⟨_,rfl⟩) (by
  obtain⟨e,h',hr,h1,h2⟩:=take148_f ho hn ha hl
  exact⟨e,h',hr,h1,[],h2⟩))
theorem num58_t{s:List UInt8} {a n:Nat} (hn:a+n≤s.length) (hl:s.length<100000000) (h4:n≤4) :
  Ct cx o (.fn 58 [.ptr 0 0,.p (.int .i64 (n:Int))]) [rdO s a] (fun e h1=>e=.ret (.p (.int .i64 ((nm ((s.drop a).take n) 0:Nat):Int)))∧∃ ext,h1=rdO s (a+n)::ext):=by
 refine ct58 (ho _ _ _ (by decide)) rfl ?_
 have ct:=fun dst t d r k Q=>c148_t ho (h:=[rdO s a]) (i:=0) (s:=s) (a:=a) (n:=n) rfl hn hl (dst:=dst) (t:=t) (d:=d) (r:=r) (k:=k) (Q:=Q)
 have hh:hset [rdO s a] 0 (rdO s (a+n))=[rdO s (a+n)]:=rfl
 have hlen:((s.drop a).take n).length=n:=by simp;omega
 generalize hu:(s.drop a).take n=u at *
 have HS:Sl [rdO s (a+n),.row 5 1 (bytesPV u) false 0] 1 (.sl 1 0 1 0 n) (bytesPV u):=by
  refine .sl (xs:=bytesPV u) rfl ?_
  have:=sub_all (bytesPV u)
  rwa[bytesPV_len,hlen]at this
 have hle:=HS.len u117
 rw[bytesPV_len,hlen]at hle
 simp only[sc58r0,sc58r1,sc58r2,sc58r3,sc58r4,sc58r5,sc58r6,sc58r8,sc58,↓rwS,↓rwX,rwZ,rwT,rwG,Nat.reduceEqDiff,Nat.reduceAdd,reduceCtorEq,Nat.reduceLT,opD_nilCheck,nilW_ptr,fp124_0,ct,hh,cvBy,hlen,List.length_cons,List.length_nil,List.cons_append,List.nil_append,hle]
 refine xC_loop (fun m t h' d r=>∃ k:Nat,m=n-k∧k≤n ∧ [rdO s (a+n),.row 5 1 (bytesPV u) false 0]=h'∧d=[]∧r=none∧t.get 5=.p (.int .i64 ((nm (u.take k) 0:Nat):Int))∧t.get 13=.sl 1 0 1 0 n∧t.get 14=.p (.int .i64 (n:Int))∧t.get 15=.p (.int .i64 (k:Int))) n ?_ ?_
 ·refine⟨0,rfl,by omega,rfl,rfl,rfl,?_⟩
  simp only[↓rwA,rwB,rwG,Nat.reduceEqDiff,Nat.reduceAdd,reduceCtorEq,Nat.reduceLT,true_and]
  first|rfl|exact trivial|(simp [nm];done)
 ·rintro m t h' d r ⟨k,rfl,hk,rfl,rfl,rfl,t5,t13,t14,t15⟩
  by_cases hlt:k<n
  ·have e1:decide ((k:Int)<(n:Int))=true:=decide_eq_true (by omega)
   have hb:(bytesPV u).getD k .nilp=.int .u8 ((u.getD k 0).toNat:Int):=by
    unfold bytesPV
    simp [List.getD,show k<u.length by omega]
   have ia:=HS.at (c:=cx) (ty:=117) (i:=(k:Int)) (j:=.i64) u117 s5 (by omega) (by rw[bytesPV_len];omega)
   rw[Int.toNat_natCast]at ia
   have ld:=HS.load (c:=cx) (e:=5) (k:=k) (by rw[bytesPV_len];omega) (by rw[hb];exact eok_int a5)
   rw[hb]at ld
   have h8:(u.getD k 0).toNat<256:=UInt8.toNat_lt _
   have hcv:∀ hh,conv3 cx hh 5 3 (.p (.int .u8 ((u.getD k 0).toNat:Int)))=.w (.p (.int .i64 ((u.getD k 0).toNat:Int))):=fun hh=>by
    rw[conv_int u5 u3,wrap64_id (by omega) (by omega)]
   have hnm:nm (u.take k) 0<16777216:=by
    have h1:=nm_lt (u.take k) 0
    have h2:(u.take k).length=k:=by simp;omega
    rw[h2]at h1
    have:256 ^ k≤256 ^ 3:=Nat.pow_le_pow_right (by decide) (by omega)
    omega
   have hs8:IntKind.wrap .i64 (((nm (u.take k) 0:Nat):Int)*256)=((nm (u.take k) 0*256:Nat):Int):=by
    rw[wrap64_id (by omega) (by omega)];omega
   have hst:nm (u.take (k+1)) 0=nm (u.take k) 0*256+(u.getD k 0).toNat:=by
    rw[List.take_add_one,nm_app,List.getElem?_eq_getElem (by omega)]
    simp [List.getD,show k<u.length by omega,nm]
   have w1:=one64 (show k<4611686018427387904 by omega)
   simp only[sc58r0,sc58r1,sc58r2,sc58r3,sc58r4,sc58r5,sc58r6,sc58l7,sc58r8,sc58,↓rwS,↓rwX,rwZ,rwT,rwG,Nat.reduceEqDiff,Nat.reduceAdd,reduceCtorEq,Nat.reduceLT,t5,t13,t14,t15,e1,ia,ld,hcv,shl_8,hs8,or_byte (show nm (u.take k) 0<4294967296 by omega) h8,w1]
   refine⟨_,?_,k+1,rfl,by omega,trivial,trivial,trivial,?_⟩
   ·omega
   ·simp only[hst,true_and]
  ·have e1:decide ((k:Int)<(n:Int))=false:=decide_eq_false (by omega)
   obtain rfl:k=n:=by omega
   simp only[sc58r0,sc58r1,sc58r2,sc58r3,sc58r4,sc58r5,sc58r6,sc58l7,sc58r8,sc58,↓rwS,↓rwX,rwZ,rwT,rwG,Nat.reduceEqDiff,Nat.reduceAdd,reduceCtorEq,Nat.reduceLT,t5,t13,t14,t15,e1]
   rw[List.take_of_length_le (by omega)]
   exact⟨rfl,_,rfl⟩
theorem num58_f{s:List UInt8} {a n:Nat} (hn:s.length<a+n) (ha:a≤s.length) (hl:s.length<100000000) :
  Ct cx o (.fn 58 [.ptr 0 0,.p (.int .i64 (n:Int))]) [rdO s a] (fun e h1=>e=.pan (.p (failP 2))∧∃ ext,h1=rdO s a::ext):=by
 refine ct58 (ho _ _ _ (by decide)) rfl ?_
 have ct:=fun dst t d r k Q=>c148_f ho (h:=[rdO s a]) (i:=0) (s:=s) (a:=a) (n:=n) rfl hn ha hl (dst:=dst) (t:=t) (d:=d) (r:=r) (k:=k) (Q:=Q)
 have hh:hset [rdO s a] 0 (rdO s a)=[rdO s a]:=rfl
 simp only[sc58r0,sc58r1,sc58r2,sc58r3,sc58r4,sc58r5,sc58r6,sc58r8,sc58,↓rwS,↓rwX,rwZ,rwT,rwG,Nat.reduceEqDiff,Nat.reduceAdd,reduceCtorEq,Nat.reduceLT,opD_nilCheck,nilW_ptr,fp124_0,ct,hh]
 exact⟨trivial,[],rfl⟩
theorem c58_t{h:List Ob} {i:Nat} {s:List UInt8} {a n:Nat} (hi:hget h i=rdO s a) (hn:a+n≤s.length) (hl:s.length<100000000) (h4:n≤4) {dst t d r k Q} :
  callW cx o dst t h d r (some (.fn 58 [.ptr i 0,.p (.int .i64 (n:Int))])) k Q=k (put dst (.p (.int .i64 ((nm ((s.drop a).take n) 0:Nat):Int))) t) (hset h i (rdO s (a+n))) d r:=
 callW_ret ext58 (cs_cellV (cs:=rdC s a) (cs':=rdC s (a+n)) hi (.inl ⟨_,rfl⟩) (num58_t ho hn hl h4))
theorem c58_f{h:List Ob} {i:Nat} {s:List UInt8} {a n:Nat} (hi:hget h i=rdO s a) (hn:s.length<a+n) (ha:a≤s.length) (hl:s.length<100000000) {dst t d r k Q} :
  callW cx o dst t h d r (some (.fn 58 [.ptr i 0,.p (.int .i64 (n:Int))])) k Q=Q (.pan (.p (failP 2))) t (hset h i (rdO s a)) d r:=
 callW_pan ext58 (cs_cellV (cs:=rdC s a) (cs':=rdC s a) hi (.inr ⟨_,rfl⟩) (num58_f ho hn ha hl))
end
end Go.Proofs
namespace Go.Ai
open Go
section
variable {c:Ctx} {h:List Ob}
noncomputable def copyW(c:Ctx) (h:List Ob) (dt:TypeId) (d x:AV):VH:=match c.under dt with
 |some (.slice e)=>(match sizeOf? c e with
  |some sz=>copy? h sz d x
  |none=>.no)
 |_=>.no
theorem opD_copy{t:Tm} {d x dt st}:opD (.call {callee:=.builtin .copy,args:=#[d,x],argTypes:=#[dt,st]}) c t h=copyW c h dt (ev c t d) (ev c t x):=(rfl)
end
end Go.Ai
namespace Go.Proofs
open Go Go.Ai
theorem hoist59{h:List Ob}:hoistS cx sc59r1 h=some ([.ptr h.length 0],h++[.cells 46 (Itm.z.V.cells.map .p)]):=by
 have hz:opD (.alloc 46) cx .lf h=.wn (.ptr h.length 0) (.cells 46 (Itm.z.V.cells.map .p)):=by
  rw[opD_alloc,z46]
 unfold sc59r1
 simp only[hoistS,isZ,cond,hz]
theorem sc59d1_z{o:Orc} {Q:Post} {t:Tm} {h:List Ob} {d:List AD} {r:Option RM}:xC cx o none sc59d1 Q t h d r=xDraw cx o none Q sc59r1 0 [h++[.cells 46 (Itm.z.V.cells.map .p)]] [] [.ptr h.length 0] t (h++[.cells 46 (Itm.z.V.cells.map .p)]) d r:=by
 show(match hoistS cx sc59r1 h with|some (zs,h)=>xDraw cx o none Q sc59r1 0 [h] [] zs t h d r|none=>False)=_
 rw[hoist59]
def Itm.k(s:List UInt8):Itm:=⟨s,false,0,List.replicate 16 0⟩
theorem b46(s:List UInt8):build? cx 46 [(0,.p (.str s))]=some (.p (Itm.k s).V):=by kernel_rfl
theorem it_s1{h:List Ob} {i:Nat} {x:Itm} {b:Bool} (hi:hget h i=x.c):store? cx h 4 (.ptr i 1) (.p (.bool b))=.ws undefA i ({x with tree:=b}:Itm).c:=
 (store_one s4 hi rfl (by unfold Itm.cs;simp)).trans rfl
theorem it_s2{h:List Ob} {i:Nat} {x:Itm} {n:Int} (hi:hget h i=x.c):store? cx h 3 (.ptr i 2) (.p (.int .i64 n))=.ws undefA i ({x with count:=n}:Itm).c:=
 (store_one s3 hi rfl (by unfold Itm.cs;simp)).trans rfl
theorem fitB:∀ l:List UInt8,allFit false 1 (bytesPV l)=true:=by
 intro l
 induction l with
 |nil=>rfl
 |cons a l ih=>exact ih
theorem it_cp{h:List Ob} {i:Nat} {x:Itm} {u:List UInt8} (hi:hget h i=x.c) (hx:x.ok) (hu:u.length=16):copyW cx h 117 (.asl i 3 16 1) (.p (.str u))=.ws (.p (.int .i64 16)) i ({x with sum:=u}:Itm).c:=by
 unfold copyW
 simp only[u117,s5]
 unfold copy?
 have hel:elems? h (.p (.str u))=some (bytesPV u):=rfl
 have htk:(bytesPV u).take 16=bytesPV u:=List.take_of_length_le (by rw[bytesPV_len,hu];decide)
 rw[hel]
 simp only[show lenOf? (.asl i 3 16 1)=some 16 from rfl,lnf_eq,forceN_eq,htk,fitB,Nat.beq_refl,hi,bytesPV_len,hu]
 show cond true _ _=_
 simp only[cond,Bool.and_self]
 have hl:=Itm.len hx
 show overK (x.cs.map AV.p) 3 ((bytesPV u).map AV.p) (fun ys=>VH.ws (.p (.int .i64 (.ofNat 16))) i (.cells 46 ys)) .no=_
 unfold overK
 rw[Nat.ble_eq_true_of_le (by rw[List.length_map,List.length_map,bytesPV_len,hu,hl];decide)]
 simp only[cond,lnf_eq,List.length_map,bytesPV_len,hu]
 have:(x.cs.map AV.p).drop (3+16)=[]:=List.drop_of_length_le (by rw[List.length_map,hl];decide)
 rw[this,List.append_nil]
 rfl
def pIt(l:Int) (s:List UInt8) (a:Nat):Option (Itm×Nat):=match pI l (s.drop a)with
 |some (x,r)=>some (x,s.length-r.length)
 |none=>none
theorem tk_at{s:List UInt8} {b n:Nat} (h:b+n≤s.length):tk n (s.drop b)=some ((s.drop b).take n,s.drop (b+n)):=by
 unfold tk
 rw[if_pos (by simp;omega),List.drop_drop]
theorem tk_no{s:List UInt8} {b n:Nat} (h:s.length<b+n) (hb:b≤s.length):tk n (s.drop b)=none:=by
 unfold tk
 rw[if_neg (by simp;omega)]
theorem nm1_lt{u:List UInt8} (h:u.length≤1):nm u 0<256:=by
 have:=nm_lt u 0
 match u,h with
 | [],_=>simp [nm]
 | [a],_=>simpa using this
section
variable {o:Orc} (ho:FreeT o)
include ho
theorem c58_1t{h:List Ob} {i:Nat} {s:List UInt8} {a:Nat} (hi:hget h i=rdO s a) (hn:a+1≤s.length) (hl:s.length<100000000) {dst t d r k Q} :
  callW cx o dst t h d r (some (.fn 58 [.ptr i 0,.p (.int .i64 1)])) k Q=k (put dst (.p (.int .i64 ((nm ((s.drop a).take 1) 0:Nat):Int))) t) (hset h i (rdO s (a+1))) d r:=c58_t ho (n:=1) hi hn hl (by decide)
theorem c58_1f{h:List Ob} {i:Nat} {s:List UInt8} {a:Nat} (hi:hget h i=rdO s a) (hn:s.length<a+1) (ha:a≤s.length) (hl:s.length<100000000) {dst t d r k Q} :
  callW cx o dst t h d r (some (.fn 58 [.ptr i 0,.p (.int .i64 1)])) k Q=Q (.pan (.p (failP 2))) t (hset h i (rdO s a)) d r:=c58_f ho (n:=1) hi hn ha hl
theorem c58_2t{h:List Ob} {i:Nat} {s:List UInt8} {a:Nat} (hi:hget h i=rdO s a) (hn:a+2≤s.length) (hl:s.length<100000000) {dst t d r k Q} :
  callW cx o dst t h d r (some (.fn 58 [.ptr i 0,.p (.int .i64 2)])) k Q=k (put dst (.p (.int .i64 ((nm ((s.drop a).take 2) 0:Nat):Int))) t) (hset h i (rdO s (a+2))) d r:=c58_t ho (n:=2) hi hn hl (by decide)
theorem c58_2f{h:List Ob} {i:Nat} {s:List UInt8} {a:Nat} (hi:hget h i=rdO s a) (hn:s.length<a+2) (ha:a≤s.length) (hl:s.length<100000000) {dst t d r k Q} :
  callW cx o dst t h d r (some (.fn 58 [.ptr i 0,.p (.int .i64 2)])) k Q=Q (.pan (.p (failP 2))) t (hset h i (rdO s a)) d r:=c58_f ho (n:=2) hi hn ha hl
theorem c58_4t{h:List Ob} {i:Nat} {s:List UInt8} {a:Nat} (hi:hget h i=rdO s a) (hn:a+4≤s.length) (hl:s.length<100000000) {dst t d r k Q} :
  callW cx o dst t h d r (some (.fn 58 [.ptr i 0,.p (.int .i64 4)])) k Q=k (put dst (.p (.int .i64 ((nm ((s.drop a).take 4) 0:Nat):Int))) t) (hset h i (rdO s (a+4))) d r:=c58_t ho (n:=4) hi hn hl (by decide)
theorem c58_4f{h:List Ob} {i:Nat} {s:List UInt8} {a:Nat} (hi:hget h i=rdO s a) (hn:s.length<a+4) (ha:a≤s.length) (hl:s.length<100000000) {dst t d r k Q} :
  callW cx o dst t h d r (some (.fn 58 [.ptr i 0,.p (.int .i64 4)])) k Q=Q (.pan (.p (failP 2))) t (hset h i (rdO s a)) d r:=c58_f ho (n:=4) hi hn ha hl
theorem c148_16t{h:List Ob} {i:Nat} {s:List UInt8} {a:Nat} (hi:hget h i=rdO s a) (hn:a+16≤s.length) (hl:s.length<100000000) {dst t d r k Q} :
  callW cx o dst t h d r (some (.fn 148 [.ptr i 0,.p (.int .i64 16)])) k Q=k (put dst (.p (.str ((s.drop a).take 16))) t) (hset h i (rdO s (a+16))) d r:=c148_t ho (n:=16) hi hn hl
theorem c148_16f{h:List Ob} {i:Nat} {s:List UInt8} {a:Nat} (hi:hget h i=rdO s a) (hn:s.length<a+16) (ha:a≤s.length) (hl:s.length<100000000) {dst t d r k Q} :
  callW cx o dst t h d r (some (.fn 148 [.ptr i 0,.p (.int .i64 16)])) k Q=Q (.pan (.p (failP 2))) t (hset h i (rdO s a)) d r:=c148_f ho (n:=16) hi hn ha hl
set_option maxHeartbeats 4000000 in
theorem item59{l:Int} (h0:0≤l) {s:List UInt8} {a:Nat} (ha:a≤s.length) (hl:s.length<100000000) :
  Ct cx o (.fn 59 [.ptr 0 0,.p (.int .i64 l)]) [rdO s a] (fun e h1=>match pIt l s a with
   |some (x,b)=>e=.ret (.p x.V)∧∃ ext,h1=rdO s b::ext
   |none=>e=.pan (.p (failP 2))∧∃ b ext,b≤s.length∧h1=rdO s b::ext):=by
 refine ct59 (ho _ _ _ (by decide)) rfl ?_
 have zc:(Itm.z.V.cells.map AV.p).length=19:=zc_len
 have R0:∀ {l:List Ob} {b:Nat},hget (rdO s b::l) 0=rdO s b:=fun {l b}=>rfl
 have H0:∀ {l:List Ob} {b:Nat} {o':Ob},hset (rdO s b::l) 0 o'=o'::l:=fun {l b o'}=>rfl
 have H1:∀ {x y z o':Ob},hset [x,y,z] 1 o'=[x,o',z]:=fun {x y z o'}=>rfl
 have H2:∀ {x y z o':Ob},hset [x,y,z] 2 o'=[x,y,o']:=fun {x y z o'}=>rfl
 have G2:∀ {x y z:Ob},hget [x,y,z] 2=z:=fun {x y z}=>rfl
 by_cases c1:a+1≤s.length
 case neg=>
  have hp:pIt l s a=none:=by
   unfold pIt pI
   rw[tk_no (by omega) ha]
  rw[hp]
  have p1:=fun(L:List Ob) dst t d r k Q=>c58_1f ho (h:=rdO s a::L) (i:=0) (s:=s) (a:=a) rfl (by omega) ha hl (dst:=dst) (t:=t) (d:=d) (r:=r) (k:=k) (Q:=Q)
  simp only[sc59r0,sc59r1,sc59r2,sc59r3,sc59r4,sc59r5,sc59r6,sc59r7,sc59r8,sc59d8_x,sc59r9,sc59,sc59d1_z,↓rwC,rwD,rwI,Nat.reduceSub,Nat.reduceLeDiff,↓rwS,↓rwX,rwZ,rwT,rwG,Nat.reduceEqDiff,Nat.reduceAdd,reduceCtorEq,Nat.reduceLT,z46,sc59r1,xDraw_Z,List.cons_append,List.nil_append,List.length_cons,List.length_nil,opD_nilCheck,nilW_ptr,fp124_0,p1,H0,drawE_panS,skip_nil,skip_Z,skip_L,skip_A,nin_nil,nin_cons,ne_eq,not_false_eq_true,and_true,true_and]
  exact⟨a,_,ha,rfl⟩
 generalize hn1:nm ((s.drop a).take 1) 0=n1
 have hn1l:n1<256:=by rw[← hn1];exact nm1_lt (by simp;omega)
 have p1:=fun(L:List Ob) dst t d r k Q=>c58_1t ho (h:=rdO s a::L) (i:=0) (s:=s) (a:=a) rfl c1 hl (dst:=dst) (t:=t) (d:=d) (r:=r) (k:=k) (Q:=Q)
 rw[hn1]at p1
 by_cases c2:a+1+n1≤s.length
 case neg=>
  have hp:pIt l s a=none:=by
   unfold pIt pI
   rw[tk_at c1]
   simp only[hn1]
   rw[tk_no (by omega) (by omega)]
  rw[hp]
  have p2:=fun(L:List Ob) dst t d r k Q=>c148_f ho (h:=rdO s (a+1)::L) (i:=0) (s:=s) (a:=a+1) (n:=n1) rfl (by omega) (by omega) hl (dst:=dst) (t:=t) (d:=d) (r:=r) (k:=k) (Q:=Q)
  simp only[sc59r0,sc59r1,sc59r2,sc59r3,sc59r4,sc59r5,sc59r6,sc59r7,sc59r8,sc59d8_x,sc59r9,sc59,sc59d1_z,↓rwC,rwD,rwI,Nat.reduceSub,Nat.reduceLeDiff,↓rwS,↓rwX,rwZ,rwT,rwG,Nat.reduceEqDiff,Nat.reduceAdd,reduceCtorEq,Nat.reduceLT,z46,sc59r1,xDraw_Z,List.cons_append,List.nil_append,List.length_cons,List.length_nil,opD_nilCheck,nilW_ptr,fp124_0,p1,p2,H0,drawE_panS,skip_nil,skip_Z,skip_L,skip_A,nin_nil,nin_cons,ne_eq,not_false_eq_true,and_true,true_and]
  exact⟨a+1,_,c1,rfl⟩
 have p2:=fun(L:List Ob) dst t d r k Q=>c148_t ho (h:=rdO s (a+1)::L) (i:=0) (s:=s) (a:=a+1) (n:=n1) rfl c2 hl (dst:=dst) (t:=t) (d:=d) (r:=r) (k:=k) (Q:=Q)
 generalize hky:(s.drop (a+1)).take n1=key at *
 have st:=it_st (h:=[rdO s (a+1+n1),.cells 46 (Itm.z.V.cells.map .p),.cells 46 (Itm.z.V.cells.map .p)]) (i:=2) (x:=Itm.k key) rfl (by rfl) zc
 have kb:(Itm.k key).tree=false:=rfl
 by_cases l0:l=0
 case neg=>
  have e1:decide (l=0)=false:=decide_eq_false l0
  have e2:decide (0<l)=true:=decide_eq_true (by omega)
  by_cases c4:a+1+n1+4≤s.length
  case neg=>
   have hp:pIt l s a=none:=by
    unfold pIt pI
    rw[tk_at c1]
    simp only[hn1]
    rw[tk_at c2]
    simp only[pF,if_neg l0]
    rw[pN,if_pos (show l > 0∨false=true from .inl (by omega)),tk_no (by omega) (by omega)]
   rw[hp]
   have p4:=fun(L:List Ob) dst t d r k Q=>c58_4f ho (h:=rdO s (a+1+n1)::L) (i:=0) (s:=s) (a:=a+1+n1) rfl (by omega) (by omega) hl (dst:=dst) (t:=t) (d:=d) (r:=r) (k:=k) (Q:=Q)
   simp only[sc59r0,sc59r1,sc59r2,sc59r3,sc59r4,sc59r5,sc59r6,sc59r7,sc59r8,sc59d8_x,sc59r9,sc59,sc59d1_z,↓rwC,rwD,rwI,Nat.reduceSub,Nat.reduceLeDiff,↓rwS,↓rwX,rwZ,rwT,rwG,Nat.reduceEqDiff,Nat.reduceAdd,reduceCtorEq,Nat.reduceLT,z46,sc59r1,xDraw_Z,List.cons_append,List.nil_append,List.length_cons,List.length_nil,opD_nilCheck,nilW_ptr,fp124_0,p1,p2,H0,H2,b46,st,e1,e2,p4]
   first|exact⟨a+1+n1,_,by omega,rfl⟩|exact⟨rfl,a+1+n1,_,by omega,rfl⟩
  case pos=>
   have p4:=fun(L:List Ob) dst t d r k Q=>c58_4t ho (h:=rdO s (a+1+n1)::L) (i:=0) (s:=s) (a:=a+1+n1) rfl (by omega) hl (dst:=dst) (t:=t) (d:=d) (r:=r) (k:=k) (Q:=Q)
   generalize hcn:nm ((s.drop (a+1+n1)).take 4) 0=cn at *
   have s2:=it_s2 (h:=[rdO s (a+1+n1+4),.cells 46 (Itm.z.V.cells.map .p),(Itm.k key).c]) (i:=2) (x:=Itm.k key) (n:=(cn:Int)) rfl
   by_cases c5:a+1+n1+4+16≤s.length
   case neg=>
    have hp:pIt l s a=none:=by
     unfold pIt pI
     rw[tk_at c1]
     simp only[hn1]
     rw[tk_at c2]
     simp only[pF,if_neg l0]
     rw[pN,if_pos (show l > 0∨false=true from .inl (by omega)),tk_at c4]
     simp only[hcn]
     try simp only
     rw[tk_no (by omega) (by omega)]
    rw[hp]
    have p5:=fun(L:List Ob) dst t d r k Q=>c148_16f ho (h:=rdO s (a+1+n1+4)::L) (i:=0) (s:=s) (a:=a+1+n1+4) rfl (by omega) (by omega) hl (dst:=dst) (t:=t) (d:=d) (r:=r) (k:=k) (Q:=Q)
    simp only[sc59r0,sc59r1,sc59r2,sc59r3,sc59r4,sc59r5,sc59r6,sc59r7,sc59r8,sc59d8_x,sc59r9,sc59,sc59d1_z,↓rwC,rwD,rwI,Nat.reduceSub,Nat.reduceLeDiff,↓rwS,↓rwX,rwZ,rwT,rwG,Nat.reduceEqDiff,Nat.reduceAdd,reduceCtorEq,Nat.reduceLT,z46,sc59r1,xDraw_Z,List.cons_append,List.nil_append,List.length_cons,List.length_nil,opD_nilCheck,nilW_ptr,fp124_0,p1,p2,H0,H2,b46,st,e1,e2,p4,fp46_2,s2,fp46_3,sl27,p5,drawE_panS,skip_nil,skip_Z,skip_L,skip_A,nin_nil,nin_cons,ne_eq,not_false_eq_true,and_true,true_and]
    first|exact⟨a+1+n1+4,_,by omega,rfl⟩|exact⟨rfl,a+1+n1+4,_,by omega,rfl⟩
   case pos=>
    have p5:=fun(L:List Ob) dst t d r k Q=>c148_16t ho (h:=rdO s (a+1+n1+4)::L) (i:=0) (s:=s) (a:=a+1+n1+4) rfl (by omega) hl (dst:=dst) (t:=t) (d:=d) (r:=r) (k:=k) (Q:=Q)
    have hul:((s.drop (a+1+n1+4)).take 16).length=16:=by simp;omega
    have hp:pIt l s a=some (⟨key,(({ (Itm.k key)with count:=(cn:Int)}:Itm)).tree,(({ (Itm.k key)with count:=(cn:Int)}:Itm)).count,(s.drop (a+1+n1+4)).take 16⟩,a+1+n1+4+16):=by
     unfold pIt pI
     rw[tk_at c1]
     simp only[hn1]
     rw[tk_at c2]
     simp only[pF,if_neg l0]
     rw[pN,if_pos (show l > 0∨false=true from .inl (by omega)),tk_at c4]
     simp only[hcn]
     try simp only
     rw[tk_at c5]
     try simp only
     rw[show s.length-(s.drop (a+1+n1+4+16)).length=a+1+n1+4+16 by simp;omega]
     first|(rw[hky];done)|(rw[hky];rfl)
    rw[hp]
    generalize hu:(s.drop (a+1+n1+4)).take 16=u at *
    have cp:=it_cp (h:=[rdO s (a+1+n1+4+16),.cells 46 (Itm.z.V.cells.map .p),(({ (Itm.k key)with count:=(cn:Int)}:Itm)).c]) (i:=2) (x:=({ (Itm.k key)with count:=(cn:Int)}:Itm)) (u:=u) rfl (show(Itm.k key).sum.length=16 from rfl) hul
    have yk:({ (({ (Itm.k key)with count:=(cn:Int)}:Itm))with sum:=u}:Itm).ok:=hul
    have ld2:=it_ld (h:=[rdO s (a+1+n1+4+16),.cells 46 (Itm.z.V.cells.map .p),({ (({ (Itm.k key)with count:=(cn:Int)}:Itm))with sum:=u}:Itm).c]) (i:=2) (x:={ (({ (Itm.k key)with count:=(cn:Int)}:Itm))with sum:=u}) rfl yk
    have st4:=it_st (h:=[rdO s (a+1+n1+4+16),.cells 46 (Itm.z.V.cells.map .p),({ (({ (Itm.k key)with count:=(cn:Int)}:Itm))with sum:=u}:Itm).c]) (i:=1) (x:={ (({ (Itm.k key)with count:=(cn:Int)}:Itm))with sum:=u}) rfl yk zc
    have ld4:=it_ld (h:=[rdO s (a+1+n1+4+16),({ (({ (Itm.k key)with count:=(cn:Int)}:Itm))with sum:=u}:Itm).c,({ (({ (Itm.k key)with count:=(cn:Int)}:Itm))with sum:=u}:Itm).c]) (i:=1) (x:={ (({ (Itm.k key)with count:=(cn:Int)}:Itm))with sum:=u}) rfl yk
    simp only[sc59r0,sc59r1,sc59r2,sc59r3,sc59r4,sc59r5,sc59r6,sc59r7,sc59r8,sc59d8_x,sc59r9,sc59,sc59d1_z,↓rwC,rwD,rwI,Nat.reduceSub,Nat.reduceLeDiff,↓rwS,↓rwX,rwZ,rwT,rwG,Nat.reduceEqDiff,Nat.reduceAdd,reduceCtorEq,Nat.reduceLT,z46,sc59r1,xDraw_Z,List.cons_append,List.nil_append,List.length_cons,List.length_nil,opD_nilCheck,nilW_ptr,fp124_0,p1,p2,H0,H2,b46,st,e1,e2,p4,fp46_2,s2,fp46_3,sl27,p5,opD_copy,cp,ld2,st4,H1,ld4]
    first|exact⟨rfl,_,rfl⟩|exact⟨_,rfl⟩
 case pos=>
  have e1:decide (l=0)=true:=decide_eq_true l0
  have e2:decide (0<l)=false:=decide_eq_false (by omega)
  by_cases c3:a+1+n1+1≤s.length
  case neg=>
   have hp:pIt l s a=none:=by
    unfold pIt pI
    rw[tk_at c1]
    simp only[hn1]
    rw[tk_at c2]
    simp only[pF,if_pos l0]
    rw[tk_no (by omega) (by omega)]
   rw[hp]
   have p3:=fun(L:List Ob) dst t d r k Q=>c58_1f ho (h:=rdO s (a+1+n1)::L) (i:=0) (s:=s) (a:=a+1+n1) rfl (by omega) (by omega) hl (dst:=dst) (t:=t) (d:=d) (r:=r) (k:=k) (Q:=Q)
   simp only[sc59r0,sc59r1,sc59r2,sc59r3,sc59r4,sc59r5,sc59r6,sc59r7,sc59r8,sc59d8_x,sc59r9,sc59,sc59d1_z,↓rwC,rwD,rwI,Nat.reduceSub,Nat.reduceLeDiff,↓rwS,↓rwX,rwZ,rwT,rwG,Nat.reduceEqDiff,Nat.reduceAdd,reduceCtorEq,Nat.reduceLT,z46,sc59r1,xDraw_Z,List.cons_append,List.nil_append,List.length_cons,List.length_nil,opD_nilCheck,nilW_ptr,fp124_0,p1,p2,H0,H2,b46,st,e1,e2,p3]
   first|exact⟨a+1+n1,_,by omega,rfl⟩|exact⟨rfl,a+1+n1,_,by omega,rfl⟩
  case pos=>
   have p3:=fun(L:List Ob) dst t d r k Q=>c58_1t ho (h:=rdO s (a+1+n1)::L) (i:=0) (s:=s) (a:=a+1+n1) rfl (by omega) hl (dst:=dst) (t:=t) (d:=d) (r:=r) (k:=k) (Q:=Q)
   generalize hf:nm ((s.drop (a+1+n1)).take 1) 0=f1 at *
   by_cases c6:f1≤1
   case neg=>
    have e3:decide ((f1:Int)≤1)=false:=decide_eq_false (by omega)
    have hp:pIt l s a=none:=by
     unfold pIt pI
     rw[tk_at c1]
     simp only[hn1]
     rw[tk_at c2]
     simp only[pF,if_pos l0]
     rw[tk_at c3]
     simp only[hf,if_neg c6]
    rw[hp]
    simp only[sc59r0,sc59r1,sc59r2,sc59r3,sc59r4,sc59r5,sc59r6,sc59r7,sc59r8,sc59d8_x,sc59r9,sc59,sc59d1_z,↓rwC,rwD,rwI,Nat.reduceSub,Nat.reduceLeDiff,↓rwS,↓rwX,rwZ,rwT,rwG,Nat.reduceEqDiff,Nat.reduceAdd,reduceCtorEq,Nat.reduceLT,z46,sc59r1,xDraw_Z,List.cons_append,List.nil_append,List.length_cons,List.length_nil,opD_nilCheck,nilW_ptr,fp124_0,p1,p2,H0,H2,b46,st,e1,e2,p3,e3,c60_f ho]
    first|exact⟨a+1+n1+1,_,by omega,rfl⟩|exact⟨rfl,a+1+n1+1,_,by omega,rfl⟩
   case pos=>
    have e3:decide ((f1:Int)≤1)=true:=decide_eq_true (by omega)
    by_cases c7:f1=1
    case neg=>
     have e4:decide ((f1:Int)=1)=false:=decide_eq_false (by omega)
     have s1:=it_s1 (h:=[rdO s (a+1+n1+1),.cells 46 (Itm.z.V.cells.map .p),(Itm.k key).c]) (i:=2) (x:=Itm.k key) (b:=false) rfl
     have lt1:=it_l1 (h:=[rdO s (a+1+n1+1),.cells 46 (Itm.z.V.cells.map .p),(({ (Itm.k key)with tree:=false}:Itm)).c]) (i:=2) (x:={ (Itm.k key)with tree:=false}) rfl
     by_cases c5:a+1+n1+1+16≤s.length
     case neg=>
      have hp:pIt l s a=none:=by
       unfold pIt pI
       rw[tk_at c1]
       simp only[hn1]
       rw[tk_at c2]
       simp only[pF,if_pos l0]
       rw[tk_at c3]
       simp only[hf,if_pos c6,decide_eq_false c7]
       rw[pN,if_neg (show ¬(l > 0∨false=true) by simp;omega)]
       try simp only
       rw[tk_no (by omega) (by omega)]
      rw[hp]
      have p5:=fun(L:List Ob) dst t d r k Q=>c148_16f ho (h:=rdO s (a+1+n1+1)::L) (i:=0) (s:=s) (a:=a+1+n1+1) rfl (by omega) (by omega) hl (dst:=dst) (t:=t) (d:=d) (r:=r) (k:=k) (Q:=Q)
      simp only[sc59r0,sc59r1,sc59r2,sc59r3,sc59r4,sc59r5,sc59r6,sc59r7,sc59r8,sc59d8_x,sc59r9,sc59,sc59d1_z,↓rwC,rwD,rwI,Nat.reduceSub,Nat.reduceLeDiff,↓rwS,↓rwX,rwZ,rwT,rwG,Nat.reduceEqDiff,Nat.reduceAdd,reduceCtorEq,Nat.reduceLT,z46,sc59r1,xDraw_Z,List.cons_append,List.nil_append,List.length_cons,List.length_nil,opD_nilCheck,nilW_ptr,fp124_0,p1,p2,H0,H2,b46,st,e1,e2,p3,e3,e4,c60_t ho,fp46_1,s1,lt1,fp46_3,sl27,p5,drawE_panS,skip_nil,skip_Z,skip_L,skip_A,nin_nil,nin_cons,ne_eq,not_false_eq_true,and_true,true_and]
      first|exact⟨a+1+n1+1,_,by omega,rfl⟩|exact⟨rfl,a+1+n1+1,_,by omega,rfl⟩
     case pos=>
      have p5:=fun(L:List Ob) dst t d r k Q=>c148_16t ho (h:=rdO s (a+1+n1+1)::L) (i:=0) (s:=s) (a:=a+1+n1+1) rfl (by omega) hl (dst:=dst) (t:=t) (d:=d) (r:=r) (k:=k) (Q:=Q)
      have hul:((s.drop (a+1+n1+1)).take 16).length=16:=by simp;omega
      have hp:pIt l s a=some (⟨key,(({ (Itm.k key)with tree:=false}:Itm)).tree,(({ (Itm.k key)with tree:=false}:Itm)).count,(s.drop (a+1+n1+1)).take 16⟩,a+1+n1+1+16):=by
       unfold pIt pI
       rw[tk_at c1]
       simp only[hn1]
       rw[tk_at c2]
       simp only[pF,if_pos l0]
       rw[tk_at c3]
       simp only[hf,if_pos c6,decide_eq_false c7]
       rw[pN,if_neg (show ¬(l > 0∨false=true) by simp;omega)]
       try simp only
       rw[tk_at c5]
       try simp only
       rw[show s.length-(s.drop (a+1+n1+1+16)).length=a+1+n1+1+16 by simp;omega]
       first|(rw[hky];done)|(rw[hky];rfl)
      rw[hp]
      generalize hu:(s.drop (a+1+n1+1)).take 16=u at *
      have cp:=it_cp (h:=[rdO s (a+1+n1+1+16),.cells 46 (Itm.z.V.cells.map .p),(({ (Itm.k key)with tree:=false}:Itm)).c]) (i:=2) (x:=({ (Itm.k key)with tree:=false}:Itm)) (u:=u) rfl (show(Itm.k key).sum.length=16 from rfl) hul
      have yk:({ (({ (Itm.k key)with tree:=false}:Itm))with sum:=u}:Itm).ok:=hul
      have ld2:=it_ld (h:=[rdO s (a+1+n1+1+16),.cells 46 (Itm.z.V.cells.map .p),({ (({ (Itm.k key)with tree:=false}:Itm))with sum:=u}:Itm).c]) (i:=2) (x:={ (({ (Itm.k key)with tree:=false}:Itm))with sum:=u}) rfl yk
      have st4:=it_st (h:=[rdO s (a+1+n1+1+16),.cells 46 (Itm.z.V.cells.map .p),({ (({ (Itm.k key)with tree:=false}:Itm))with sum:=u}:Itm).c]) (i:=1) (x:={ (({ (Itm.k key)with tree:=false}:Itm))with sum:=u}) rfl yk zc
      have ld4:=it_ld (h:=[rdO s (a+1+n1+1+16),({ (({ (Itm.k key)with tree:=false}:Itm))with sum:=u}:Itm).c,({ (({ (Itm.k key)with tree:=false}:Itm))with sum:=u}:Itm).c]) (i:=1) (x:={ (({ (Itm.k key)with tree:=false}:Itm))with sum:=u}) rfl yk
      simp only[sc59r0,sc59r1,sc59r2,sc59r3,sc59r4,sc59r5,sc59r6,sc59r7,sc59r8,sc59d8_x,sc59r9,sc59,sc59d1_z,↓rwC,rwD,rwI,Nat.reduceSub,Nat.reduceLeDiff,↓rwS,↓rwX,rwZ,rwT,rwG,Nat.reduceEqDiff,Nat.reduceAdd,reduceCtorEq,Nat.reduceLT,z46,sc59r1,xDraw_Z,List.cons_append,List.nil_append,List.length_cons,List.length_nil,opD_nilCheck,nilW_ptr,fp124_0,p1,p2,H0,H2,b46,st,e1,e2,p3,e3,e4,c60_t ho,fp46_1,s1,lt1,fp46_3,sl27,p5,opD_copy,cp,ld2,st4,H1,ld4]
      first|exact⟨rfl,_,rfl⟩|exact⟨_,rfl⟩
    case pos=>
     have e4:decide ((f1:Int)=1)=true:=decide_eq_true (by omega)
     have s1:=it_s1 (h:=[rdO s (a+1+n1+1),.cells 46 (Itm.z.V.cells.map .p),(Itm.k key).c]) (i:=2) (x:=Itm.k key) (b:=true) rfl
     have lt1:=it_l1 (h:=[rdO s (a+1+n1+1),.cells 46 (Itm.z.V.cells.map .p),(({ (Itm.k key)with tree:=true}:Itm)).c]) (i:=2) (x:={ (Itm.k key)with tree:=true}) rfl
     by_cases c4:a+1+n1+1+4≤s.length
     case neg=>
      have hp:pIt l s a=none:=by
       unfold pIt pI
       rw[tk_at c1]
       simp only[hn1]
       rw[tk_at c2]
       simp only[pF,if_pos l0]
       rw[tk_at c3]
       simp only[hf,if_pos c6,decide_eq_true c7]
       rw[pN,if_pos (show l > 0∨true=true from .inr rfl),tk_no (by omega) (by omega)]
      rw[hp]
      have p4:=fun(L:List Ob) dst t d r k Q=>c58_4f ho (h:=rdO s (a+1+n1+1)::L) (i:=0) (s:=s) (a:=a+1+n1+1) rfl (by omega) (by omega) hl (dst:=dst) (t:=t) (d:=d) (r:=r) (k:=k) (Q:=Q)
      simp only[sc59r0,sc59r1,sc59r2,sc59r3,sc59r4,sc59r5,sc59r6,sc59r7,sc59r8,sc59d8_x,sc59r9,sc59,sc59d1_z,↓rwC,rwD,rwI,Nat.reduceSub,Nat.reduceLeDiff,↓rwS,↓rwX,rwZ,rwT,rwG,Nat.reduceEqDiff,Nat.reduceAdd,reduceCtorEq,Nat.reduceLT,z46,sc59r1,xDraw_Z,List.cons_append,List.nil_append,List.length_cons,List.length_nil,opD_nilCheck,nilW_ptr,fp124_0,p1,p2,H0,H2,b46,st,e1,e2,p3,e3,e4,c60_t ho,fp46_1,s1,lt1,p4]
      first|exact⟨a+1+n1+1,_,by omega,rfl⟩|exact⟨rfl,a+1+n1+1,_,by omega,rfl⟩
     case pos=>
      have p4:=fun(L:List Ob) dst t d r k Q=>c58_4t ho (h:=rdO s (a+1+n1+1)::L) (i:=0) (s:=s) (a:=a+1+n1+1) rfl (by omega) hl (dst:=dst) (t:=t) (d:=d) (r:=r) (k:=k) (Q:=Q)
      generalize hcn:nm ((s.drop (a+1+n1+1)).take 4) 0=cn at *
      have s2:=it_s2 (h:=[rdO s (a+1+n1+1+4),.cells 46 (Itm.z.V.cells.map .p),(({ (Itm.k key)with tree:=true}:Itm)).c]) (i:=2) (x:=({ (Itm.k key)with tree:=true}:Itm)) (n:=(cn:Int)) rfl
      by_cases c5:a+1+n1+1+4+16≤s.length
      case neg=>
       have hp:pIt l s a=none:=by
        unfold pIt pI
        rw[tk_at c1]
        simp only[hn1]
        rw[tk_at c2]
        simp only[pF,if_pos l0]
        rw[tk_at c3]
        simp only[hf,if_pos c6,decide_eq_true c7]
        rw[pN,if_pos (show l > 0∨true=true from .inr rfl),tk_at c4]
        simp only[hcn]
        try simp only
        rw[tk_no (by omega) (by omega)]
       rw[hp]
       have p5:=fun(L:List Ob) dst t d r k Q=>c148_16f ho (h:=rdO s (a+1+n1+1+4)::L) (i:=0) (s:=s) (a:=a+1+n1+1+4) rfl (by omega) (by omega) hl (dst:=dst) (t:=t) (d:=d) (r:=r) (k:=k) (Q:=Q)
       simp only[sc59r0,sc59r1,sc59r2,sc59r3,sc59r4,sc59r5,sc59r6,sc59r7,sc59r8,sc59d8_x,sc59r9,sc59,sc59d1_z,↓rwC,rwD,rwI,Nat.reduceSub,Nat.reduceLeDiff,↓rwS,↓rwX,rwZ,rwT,rwG,Nat.reduceEqDiff,Nat.reduceAdd,reduceCtorEq,Nat.reduceLT,z46,sc59r1,xDraw_Z,List.cons_append,List.nil_append,List.length_cons,List.length_nil,opD_nilCheck,nilW_ptr,fp124_0,p1,p2,H0,H2,b46,st,e1,e2,p3,e3,e4,c60_t ho,fp46_1,s1,lt1,p4,fp46_2,s2,fp46_3,sl27,p5,drawE_panS,skip_nil,skip_Z,skip_L,skip_A,nin_nil,nin_cons,ne_eq,not_false_eq_true,and_true,true_and]
       first|exact⟨a+1+n1+1+4,_,by omega,rfl⟩|exact⟨rfl,a+1+n1+1+4,_,by omega,rfl⟩
      case pos=>
       have p5:=fun(L:List Ob) dst t d r k Q=>c148_16t ho (h:=rdO s (a+1+n1+1+4)::L) (i:=0) (s:=s) (a:=a+1+n1+1+4) rfl (by omega) hl (dst:=dst) (t:=t) (d:=d) (r:=r) (k:=k) (Q:=Q)
       have hul:((s.drop (a+1+n1+1+4)).take 16).length=16:=by simp;omega
       have hp:pIt l s a=some (⟨key,(({ (({ (Itm.k key)with tree:=true}:Itm))with count:=(cn:Int)}:Itm)).tree,(({ (({ (Itm.k key)with tree:=true}:Itm))with count:=(cn:Int)}:Itm)).count,(s.drop (a+1+n1+1+4)).take 16⟩,a+1+n1+1+4+16):=by
        unfold pIt pI
        rw[tk_at c1]
        simp only[hn1]
        rw[tk_at c2]
        simp only[pF,if_pos l0]
        rw[tk_at c3]
        simp only[hf,if_pos c6,decide_eq_true c7]
        rw[pN,if_pos (show l > 0∨true=true from .inr rfl),tk_at c4]
        simp only[hcn]
        try simp only
        rw[tk_at c5]
        try simp only
        rw[show s.length-(s.drop (a+1+n1+1+4+16)).length=a+1+n1+1+4+16 by simp;omega]
        first|(rw[hky];done)|(rw[hky];rfl)
       rw[hp]
       generalize hu:(s.drop (a+1+n1+1+4)).take 16=u at *
       have cp:=it_cp (h:=[rdO s (a+1+n1+1+4+16),.cells 46 (Itm.z.V.cells.map .p),(({ (({ (Itm.k key)with tree:=true}:Itm))with count:=(cn:Int)}:Itm)).c]) (i:=2) (x:=({ (({ (Itm.k key)with tree:=true}:Itm))with count:=(cn:Int)}:Itm)) (u:=u) rfl (show(Itm.k key).sum.length=16 from rfl) hul
       have yk:({ (({ (({ (Itm.k key)with tree:=true}:Itm))with count:=(cn:Int)}:Itm))with sum:=u}:Itm).ok:=hul
       have ld2:=it_ld (h:=[rdO s (a+1+n1+1+4+16),.cells 46 (Itm.z.V.cells.map .p),({ (({ (({ (Itm.k key)with tree:=true}:Itm))with count:=(cn:Int)}:Itm))with sum:=u}:Itm).c]) (i:=2) (x:={ (({ (({ (Itm.k key)with tree:=true}:Itm))with count:=(cn:Int)}:Itm))with sum:=u}) rfl yk
       have st4:=it_st (h:=[rdO s (a+1+n1+1+4+16),.cells 46 (Itm.z.V.cells.map .p),({ (({ (({ (Itm.k key)with tree:=true}:Itm))with count:=(cn:Int)}:Itm))with sum:=u}:Itm).c]) (i:=1) (x:={ (({ (({ (Itm.k key)with tree:=true}:Itm))with count:=(cn:Int)}:Itm))with sum:=u}) rfl yk zc
       have ld4:=it_ld (h:=[rdO s (a+1+n1+1+4+16),({ (({ (({ (Itm.k key)with tree:=true}:Itm))with count:=(cn:Int)}:Itm))with sum:=u}:Itm).c,({ (({ (({ (Itm.k key)with tree:=true}:Itm))with count:=(cn:Int)}:Itm))with sum:=u}:Itm).c]) (i:=1) (x:={ (({ (({ (Itm.k key)with tree:=true}:Itm))with count:=(cn:Int)}:Itm))with sum:=u}) rfl yk
       simp only[sc59r0,sc59r1,sc59r2,sc59r3,sc59r4,sc59r5,sc59r6,sc59r7,sc59r8,sc59d8_x,sc59r9,sc59,sc59d1_z,↓rwC,rwD,rwI,Nat.reduceSub,Nat.reduceLeDiff,↓rwS,↓rwX,rwZ,rwT,rwG,Nat.reduceEqDiff,Nat.reduceAdd,reduceCtorEq,Nat.reduceLT,z46,sc59r1,xDraw_Z,List.cons_append,List.nil_append,List.length_cons,List.length_nil,opD_nilCheck,nilW_ptr,fp124_0,p1,p2,H0,H2,b46,st,e1,e2,p3,e3,e4,c60_t ho,fp46_1,s1,lt1,p4,fp46_2,s2,fp46_3,sl27,p5,opD_copy,cp,ld2,st4,H1,ld4]
       first|exact⟨rfl,_,rfl⟩|exact⟨_,rfl⟩
end
end Go.Proofs

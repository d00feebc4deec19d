/- What is proved: a block of the digest leaves in its memory what SHA-256 says, by words of 32 bits ('blk_ct'), and may be taken in place of runs. Conditions: the block has 64 bytes. -/
import Derived.Test.YtepjcfcfpjhpgaaGreatDoorPC01
import Derived.Test.YtepjcfcfpjhpgaaGreatDoorPA10
import Derived.Test.YtepjcfcfpjhpgaaGreatDoorPB08
set_option linter.all false
set_option maxRecDepth 100000
namespace Go.Proofs
open Go Go.Ai
def o0:Orc:=fun _ _ _=>none
theorem z291:zero? cx 291=some (.agg (up (List.replicate 8 0))):=by kernel_rfl
theorem z384:zero? cx 384=some (.agg (up (List.replicate 64 0))):=by kernel_rfl
theorem rot260{x k:Int} {s:Nat} (hs:an64 (IntKind.wrap .u64 k) 31=(s:Int)) (h2:IntKind.wrap .u64 (32-(s:Int))=((32-s:Nat):Int)) (h32:s≤32) :
  Ct cx o0 (.fn 373 [.p (.int .u32 x),.p (.int .i64 k)]) [] (fun e _=>e=.ret (.p (.int .u32 (rot x s)))):=by
 refine ct373 rfl rfl ?_
 have hcv:∀ hh,conv3 cx hh 3 232 (.p (.int .i64 k))=.w (.p (.int .u64 (IntKind.wrap .u64 k))):=fun hh=>conv_int u3 u232
 simp only[sc373,sc373r0,sc373r1,sc373r2,↓xC_skip,↓xC_reg,↓xC_seq,↓seqP_n,↓seqP_ret,↓seqP_pan,↓seqP_exit,↓xC_cond,↓condW_true,↓condW_false,↓xC_block,↓blockP_n,↓blockP_ret,↓blockP_pan,↓blockP_exit,↓loopP_n,↓loopP_ret,↓loopP_pan,↓loopP_exit,↓xC_exit,↓xC_ret,↓xOps_nil,↓xOps_cons,↓xOps_guard,↓gW_tt,↓gW_tf,↓gW_ft,↓gW_ff,↓gW_un,↓opW_w,↓opW_ws,↓opW_wn,↓opW_wh,↓opW_value,↓opW_panic,put_some,put_none,target_fn,ev_tmp,ev_func,ev_int,ev_bool,ev_str,ev_nils,ev_nilp,ev_nili,ev_nilf,evs_nil,evs_cons,evp_nil,evp_cons,evo_none,evo_some,opD_move,opD_assign,opD_pick,pickW_true,pickW_false,pickW_bool,opD_bin,opD_not,opD_conv,opD_load,opD_store,opD_indexAddr,opD_index,opD_fieldAddr,opD_field,opD_extract,opD_len',len_str,len_nils,len_vec,len_sl,opD_alloc,opD_append',opD_buildSlice,opD_build,opD_slice',ofO_some,lss_i,leq_i,gtr_i,geq_i,eql_i,neq_i,add_i,sub_i,mul_i,not_b,eql_s,neq_s,lss_s,leq_s,end_ret,end_n,end_pan,Tm.get_set,argT,Nat.reduceEqDiff,Nat.reduceAdd,if_true,if_false,cond_true,cond_false,Bool.true_eq_false,Bool.false_eq_true,Bool.not_true,Bool.not_false,reduceCtorEq,List.toList_toArray,Nat.reduceLT,results?,vals,ite_true,ite_false,hcv,band_w,hs,shl_u h32,h2,shr_u (show 32-s≤32 by omega),bor_u]
 rfl
theorem call260{x k:Int} {s:Nat} (hs:an64 (IntKind.wrap .u64 k) 31=(s:Int)) (h2:IntKind.wrap .u64 (32-(s:Int))=((32-s:Nat):Int)) (h32:s≤32) {dst t h d r K Q} :
  callW cx o0 dst t h d r (some (.fn 373 [.p (.int .u32 x),.p (.int .i64 k)])) K Q=K (put dst (.p (.int .u32 (rot x s))) t) h d r:=
 callW_ret ext373 (cs_p (f:=373) (ps:=[.int .u32 x,.int .i64 k]) rfl (rot260 hs h2 h32))
section
variable {x:Int} {dst:Option Tmp} {t:Tm} {h:List Ob} {d:List AD} {r:Option RM} {K:KP} {Q:Post}
theorem c7:callW cx o0 dst t h d r (some (.fn 373 [.p (.int .u32 x),.p (.int .i64 (-7))])) K Q=K (put dst (.p (.int .u32 (rot x 25))) t) h d r:=call260 (s:=25) (by decide +kernel) (by decide +kernel) (by decide)
theorem c18:callW cx o0 dst t h d r (some (.fn 373 [.p (.int .u32 x),.p (.int .i64 (-18))])) K Q=K (put dst (.p (.int .u32 (rot x 14))) t) h d r:=call260 (s:=14) (by decide +kernel) (by decide +kernel) (by decide)
theorem c17:callW cx o0 dst t h d r (some (.fn 373 [.p (.int .u32 x),.p (.int .i64 (-17))])) K Q=K (put dst (.p (.int .u32 (rot x 15))) t) h d r:=call260 (s:=15) (by decide +kernel) (by decide +kernel) (by decide)
theorem c19:callW cx o0 dst t h d r (some (.fn 373 [.p (.int .u32 x),.p (.int .i64 (-19))])) K Q=K (put dst (.p (.int .u32 (rot x 13))) t) h d r:=call260 (s:=13) (by decide +kernel) (by decide +kernel) (by decide)
theorem c6:callW cx o0 dst t h d r (some (.fn 373 [.p (.int .u32 x),.p (.int .i64 (-6))])) K Q=K (put dst (.p (.int .u32 (rot x 26))) t) h d r:=call260 (s:=26) (by decide +kernel) (by decide +kernel) (by decide)
theorem c11:callW cx o0 dst t h d r (some (.fn 373 [.p (.int .u32 x),.p (.int .i64 (-11))])) K Q=K (put dst (.p (.int .u32 (rot x 21))) t) h d r:=call260 (s:=21) (by decide +kernel) (by decide +kernel) (by decide)
theorem c25:callW cx o0 dst t h d r (some (.fn 373 [.p (.int .u32 x),.p (.int .i64 (-25))])) K Q=K (put dst (.p (.int .u32 (rot x 7))) t) h d r:=call260 (s:=7) (by decide +kernel) (by decide +kernel) (by decide)
theorem c2:callW cx o0 dst t h d r (some (.fn 373 [.p (.int .u32 x),.p (.int .i64 (-2))])) K Q=K (put dst (.p (.int .u32 (rot x 30))) t) h d r:=call260 (s:=30) (by decide +kernel) (by decide +kernel) (by decide)
theorem c13:callW cx o0 dst t h d r (some (.fn 373 [.p (.int .u32 x),.p (.int .i64 (-13))])) K Q=K (put dst (.p (.int .u32 (rot x 19))) t) h d r:=call260 (s:=19) (by decide +kernel) (by decide +kernel) (by decide)
theorem c22:callW cx o0 dst t h d r (some (.fn 373 [.p (.int .u32 x),.p (.int .i64 (-22))])) K Q=K (put dst (.p (.int .u32 (rot x 10))) t) h d r:=call260 (s:=10) (by decide +kernel) (by decide +kernel) (by decide)
end
def byt(b:List UInt8) (i:Nat):Int:=IntKind.wrap .u32 ((b.getD i 0).toNat:Int)
def wrd(b:List UInt8) (w:List Int) (i:Nat):Int:=
 if i<16 then orr (orr (orr (sl32 (byt b (4*i)) 24) (sl32 (byt b (4*i+1)) 16)) (sl32 (byt b (4*i+2)) 8)) (byt b (4*i+3))
 else ad (ad (ad (w.getD (i-16) 0) (xr (xr (rot (w.getD (i-15) 0) 25) (rot (w.getD (i-15) 0) 14)) (sr32 (w.getD (i-15) 0) 3))) (w.getD (i-7) 0))
  (xr (xr (rot (w.getD (i-2) 0) 15) (rot (w.getD (i-2) 0) 13)) (sr32 (w.getD (i-2) 0) 10))
def W(b:List UInt8):Nat→List Int
 |0=>List.replicate 64 0
 |i+1=>(W b i).set i (wrd b (W b i) i)
theorem W_len(b i):(W b i).length=64:=by
 induction i with
 |zero=>rfl
 |succ i ih=>unfold W;rw[List.length_set,ih]
def rnd(k w:Int) (v:List Int):List Int:=
 match v with
 | [a,b,c,d,e,f,g,h]=>
  [ad (ad (ad (ad (ad h (xr (xr (rot e 26) (rot e 21)) (rot e 7))) (xr (an e f) (an (nt e) g))) k) w) (ad (xr (xr (rot a 30) (rot a 19)) (rot a 10)) (xr (xr (an a b) (an a c)) (an b c))),a,b,c,
   ad d (ad (ad (ad (ad h (xr (xr (rot e 26) (rot e 21)) (rot e 7))) (xr (an e f) (an (nt e) g))) k) w),e,f,g]
 |v=>v
def V(ks ws v:List Int):Nat→List Int
 |0=>v
 |i+1=>rnd (ks.getD i 0) (ws.getD i 0) (V ks ws v i)
theorem V_len(ks ws v i) (hv:v.length=8):(V ks ws v i).length=8:=by
 induction i with
 |zero=>exact hv
 |succ i ih=>unfold V rnd;split<;>first|rfl|exact ih
def HH(v h0:List Int):Nat→List Int
 |0=>h0
 |i+1=>(HH v h0 i).set i (ad ((HH v h0 i).getD i 0) (v.getD i 0))
theorem HH_len(v h0 i) (hh:h0.length=8):(HH v h0 i).length=8:=by
 induction i with
 |zero=>exact hh
 |succ i ih=>unfold HH;rw[List.length_set,ih]
theorem b291(a b c d e f g h:Int):build? cx 291 [(0,.p (.int .u32 a)),(1,.p (.int .u32 b)),(2,.p (.int .u32 c)),(3,.p (.int .u32 d)),(4,.p (.int .u32 e)),(5,.p (.int .u32 f)),(6,.p (.int .u32 g)),(7,.p (.int .u32 h))]=some (.p (.agg (up [a,b,c,d,e,f,g,h]))):=by kernel_rfl
def blkEnd(e:TypeId) (b:List UInt8) (H K:List Int) (mid:List AV):List Ob:=
 [.cells e (us (HH (V K (W b 64) H 64) H 8)++(mid++us K)),.cells 384 (us (W b 64)),.cells 291 (us (V K (W b 64) H 64))]
theorem ia{n:Nat} {ty:TypeId} {i off:Nat} {j:Nat} (hu:cx.under ty=some (.array n 290)) (hj:j<n):indexAddr? cx ty (.ptr i off) (.p (.int .i64 (j:Int)))=some (.ptr i (off+j)):=by
 rw[idx_ptr hu s290 (by omega) (by omega),Int.toNat_natCast]
theorem blk_ct{e:TypeId} {b:List UInt8} {H K:List Int} {mid:List AV} (hb:b.length=64) (hH:H.length=8) (hK:K.length=64) (hm:mid.length=2) :
  Ct cx o0 (.fn 341 [.ptr 0 0,.p (.str b)]) [.cells e (us H++(mid++us K))] (fun en h'=>en=.ret (.tup [])∧h'=blkEnd e b H K mid):=by
 refine ct341 rfl rfl ?_
 simp only[sc341,sc341r0,sc341r1,↓xC_skip,↓xC_reg,↓xC_seq,↓seqP_n,↓seqP_ret,↓seqP_pan,↓seqP_exit,↓xC_cond,↓condW_true,↓condW_false,↓xC_block,↓blockP_n,↓blockP_ret,↓blockP_pan,↓blockP_exit,↓loopP_n,↓loopP_ret,↓loopP_pan,↓loopP_exit,↓xC_exit,↓xC_ret,↓xOps_nil,↓xOps_cons,↓xOps_guard,↓gW_tt,↓gW_tf,↓gW_ft,↓gW_ff,↓gW_un,↓opW_w,↓opW_ws,↓opW_wn,↓opW_wh,↓opW_value,↓opW_panic,put_some,put_none,target_fn,ev_tmp,ev_func,ev_int,ev_bool,ev_str,ev_nils,ev_nilp,ev_nili,ev_nilf,evs_nil,evs_cons,evp_nil,evp_cons,evo_none,evo_some,opD_move,opD_assign,opD_pick,pickW_true,pickW_false,pickW_bool,opD_bin,opD_not,opD_conv,opD_load,opD_store,opD_indexAddr,opD_index,opD_fieldAddr,opD_field,opD_extract,opD_len',len_str,len_nils,len_vec,len_sl,opD_alloc,opD_append',opD_buildSlice,opD_build,opD_slice',ofO_some,lss_i,leq_i,gtr_i,geq_i,eql_i,neq_i,add_i,sub_i,mul_i,not_b,eql_s,neq_s,lss_s,leq_s,end_ret,end_n,end_pan,Tm.get_set,argT,Nat.reduceEqDiff,Nat.reduceAdd,if_true,if_false,cond_true,cond_false,Bool.true_eq_false,Bool.false_eq_true,Bool.not_true,Bool.not_false,reduceCtorEq,List.toList_toArray,Nat.reduceLT,results?,vals,ite_true,ite_false,z384,cells_up,List.cons_append,List.nil_append,List.length_cons,List.length_nil]
 refine xC_loop (fun n t h' d r=>∃ i:Nat,n=64-i∧i≤64∧d=[]∧r=none∧t.get 0=.ptr 0 0∧t.get 1=.p (.str b)∧t.get 4=.ptr 1 0∧t.get 22=.p (.int .i64 (i:Int))∧h'=[.cells e (us H++(mid++us K)),.cells 384 (us (W b i))]) 64 ?_ ?_
 ·refine⟨0,rfl,by omega,rfl,rfl,?_⟩
  simp only[↓xC_skip,↓xC_reg,↓xC_seq,↓seqP_n,↓seqP_ret,↓seqP_pan,↓seqP_exit,↓xC_cond,↓condW_true,↓condW_false,↓xC_block,↓blockP_n,↓blockP_ret,↓blockP_pan,↓blockP_exit,↓loopP_n,↓loopP_ret,↓loopP_pan,↓loopP_exit,↓xC_exit,↓xC_ret,↓xOps_nil,↓xOps_cons,↓xOps_guard,↓gW_tt,↓gW_tf,↓gW_ft,↓gW_ff,↓gW_un,↓opW_w,↓opW_ws,↓opW_wn,↓opW_wh,↓opW_value,↓opW_panic,put_some,put_none,target_fn,ev_tmp,ev_func,ev_int,ev_bool,ev_str,ev_nils,ev_nilp,ev_nili,ev_nilf,evs_nil,evs_cons,evp_nil,evp_cons,evo_none,evo_some,opD_move,opD_assign,opD_pick,pickW_true,pickW_false,pickW_bool,opD_bin,opD_not,opD_conv,opD_load,opD_store,opD_indexAddr,opD_index,opD_fieldAddr,opD_field,opD_extract,opD_len',len_str,len_nils,len_vec,len_sl,opD_alloc,opD_append',opD_buildSlice,opD_build,opD_slice',ofO_some,lss_i,leq_i,gtr_i,geq_i,eql_i,neq_i,add_i,sub_i,mul_i,not_b,eql_s,neq_s,lss_s,leq_s,end_ret,end_n,end_pan,Tm.get_set,argT,Nat.reduceEqDiff,Nat.reduceAdd,if_true,if_false,cond_true,cond_false,Bool.true_eq_false,Bool.false_eq_true,Bool.not_true,Bool.not_false,reduceCtorEq,List.toList_toArray,Nat.reduceLT,results?,vals,ite_true,ite_false,true_and]
  first|rfl|exact⟨rfl,rfl⟩|exact⟨trivial,rfl⟩
 ·rintro n t h' d r ⟨i,rfl,hi,rfl,rfl,t0,t1,t4,t22,rfl⟩
  have hw1:IntKind.wrap .i64 ((i:Int)+1)=((i+1:Nat):Int):=by rw[wrap64_id (by omega) (by omega)];omega
  by_cases hlt:(i:Int)<64
  ·have hiw:i<(W b i).length:=by rw[W_len];omega
   have ai:indexAddr? cx 384 (.ptr 1 0) (.p (.int .i64 (i:Int)))=some (.ptr 1 i):=by rw[ia u384 (by omega),Nat.zero_add]
   have st:∀ n:Int,store? cx [.cells e (us H++(mid++us K)),.cells 384 (us (W b i))] 290 (.ptr 1 i) (.p (.int .u32 n))=.ws undefA 1 (.cells 384 (us ((W b i).set i n))):=fun n=>by
    rw[store_one s290 rfl rfl (by rw[us_length];exact hiw),us_set]
   by_cases h16:(i:Int)<16
   ·have m4:IntKind.wrap .i64 (4*(i:Int))=((4*i:Nat):Int):=by rw[wrap64_id (by omega) (by omega)];omega
    have m41:IntKind.wrap .i64 (((4*i:Nat):Int)+1)=((4*i+1:Nat):Int):=by rw[wrap64_id (by omega) (by omega)];omega
    have m42:IntKind.wrap .i64 (((4*i:Nat):Int)+2)=((4*i+2:Nat):Int):=by rw[wrap64_id (by omega) (by omega)];omega
    have m43:IntKind.wrap .i64 (((4*i:Nat):Int)+3)=((4*i+3:Nat):Int):=by rw[wrap64_id (by omega) (by omega)];omega
    have ix:∀ k:Nat,k<64→index? cx 9 (.p (.str b)) (.p (.int .i64 (k:Int)))=some (.p (.int .u8 (b.getD k 0).toNat)):=fun k hk=>by
     have:=index_str (c:=cx) (ty:=9) (s:=b) (i:=(k:Int)) (j:=.i64) u9 (by omega) (by omega)
     rw[this,Int.toNat_natCast]
    have i0:=ix (4*i) (by omega)
    have i1:=ix (4*i+1) (by omega)
    have i2:=ix (4*i+2) (by omega)
    have i3:=ix (4*i+3) (by omega)
    have cv:∀ hh k,conv3 cx hh 5 290 (.p (.int .u8 (b.getD k 0).toNat))=.w (.p (.int .u32 (byt b k))):=fun hh k=>conv_int u5 u290
    simp only[sc341l11,sc341r2,sc341r3,sc341r4,sc341d5_x,sc341r5,sc341r10,↓xC_skip,↓xC_reg,↓xC_seq,↓seqP_n,↓seqP_ret,↓seqP_pan,↓seqP_exit,↓xC_cond,↓condW_true,↓condW_false,↓xC_block,↓blockP_n,↓blockP_ret,↓blockP_pan,↓blockP_exit,↓loopP_n,↓loopP_ret,↓loopP_pan,↓loopP_exit,↓xC_exit,↓xC_ret,↓xOps_nil,↓xOps_cons,↓xOps_guard,↓gW_tt,↓gW_tf,↓gW_ft,↓gW_ff,↓gW_un,↓opW_w,↓opW_ws,↓opW_wn,↓opW_wh,↓opW_value,↓opW_panic,put_some,put_none,target_fn,ev_tmp,ev_func,ev_int,ev_bool,ev_str,ev_nils,ev_nilp,ev_nili,ev_nilf,evs_nil,evs_cons,evp_nil,evp_cons,evo_none,evo_some,opD_move,opD_assign,opD_pick,pickW_true,pickW_false,pickW_bool,opD_bin,opD_not,opD_conv,opD_load,opD_store,opD_indexAddr,opD_index,opD_fieldAddr,opD_field,opD_extract,opD_len',len_str,len_nils,len_vec,len_sl,opD_alloc,opD_append',opD_buildSlice,opD_build,opD_slice',ofO_some,lss_i,leq_i,gtr_i,geq_i,eql_i,neq_i,add_i,sub_i,mul_i,not_b,eql_s,neq_s,lss_s,leq_s,end_ret,end_n,end_pan,Tm.get_set,argT,Nat.reduceEqDiff,Nat.reduceAdd,if_true,if_false,cond_true,cond_false,Bool.true_eq_false,Bool.false_eq_true,Bool.not_true,Bool.not_false,reduceCtorEq,List.toList_toArray,Nat.reduceLT,results?,vals,ite_true,ite_false,↓xDraw_nil,↓xDraw_L,↓xDraw_A,↓LW_some,↓x1_none,↓x1_guard,blur_nil,blur_cons,slotV_some,toO_w,look_none,look_guard,↓gL_tt,↓gL_tf,↓gL_ft,↓gL_ff,↓gL_un,looksSame_nil,looksSame_cons,pendOk_nil,pendOk_cons,List.drop_succ_cons,List.drop_zero,List.take_succ_cons,List.take_zero,List.drop_nil,List.take_nil,Nat.reduceSub,Nat.reduceLeDiff,Nat.lt_irrefl,Nat.sub_self,Nat.sub_zero,Nat.zero_sub,true_and,Bool.and_true,Bool.and_self,Nat.zero_lt_one,Nat.not_lt_zero,Nat.le_refl,Nat.zero_le,Nat.zero_add,t0,t1,t4,t22,hlt,h16,decide_true,m4,m41,m42,m43,i0,i1,i2,i3,cv,shl24,shl16,shl8,bor_u,ai,st,hset2_1,hw1,true_and]
    refine⟨_,?_,i+1,rfl,?_,?_⟩
    ·omega
    ·omega
    ·rw[show W b (i+1)=_ from(show(W b i).set i (wrd b (W b i) i)=_ by unfold wrd;rw[if_pos (show i<16 by omega)])]
     first|rfl|exact⟨rfl,rfl⟩|exact⟨trivial,rfl⟩
   ·have s15:IntKind.wrap .i64 ((i:Int)-15)=((i-15:Nat):Int):=by rw[wrap64_id (by omega) (by omega)];omega
    have s2:IntKind.wrap .i64 ((i:Int)-2)=((i-2:Nat):Int):=by rw[wrap64_id (by omega) (by omega)];omega
    have s16:IntKind.wrap .i64 ((i:Int)-16)=((i-16:Nat):Int):=by rw[wrap64_id (by omega) (by omega)];omega
    have s7:IntKind.wrap .i64 ((i:Int)-7)=((i-7:Nat):Int):=by rw[wrap64_id (by omega) (by omega)];omega
    have aj:∀ k:Nat,k<64→indexAddr? cx 384 (.ptr 1 0) (.p (.int .i64 (k:Int)))=some (.ptr 1 k):=fun k hk=>by rw[ia u384 hk,Nat.zero_add]
    have a15:=aj (i-15) (by omega)
    have a2:=aj (i-2) (by omega)
    have a16:=aj (i-16) (by omega)
    have a7:=aj (i-7) (by omega)
    have lj:∀ k:Nat,k<64→load? cx [.cells e (us H++(mid++us K)),.cells 384 (us (W b i))] 290 (.ptr 1 k)=some (.p (.int .u32 ((W b i).getD k 0))):=fun k hk=>load_one a290 rfl (us_get (by rw[W_len];omega))
    have l15:=lj (i-15) (by omega)
    have l2:=lj (i-2) (by omega)
    have l16:=lj (i-16) (by omega)
    have l7:=lj (i-7) (by omega)
    simp only[sc341l11,sc341r2,sc341r3,sc341r4,sc341d6_x,sc341r6,sc341r7,sc341r8,sc341d9_x,sc341r9,sc341r10,↓xC_skip,↓xC_reg,↓xC_seq,↓seqP_n,↓seqP_ret,↓seqP_pan,↓seqP_exit,↓xC_cond,↓condW_true,↓condW_false,↓xC_block,↓blockP_n,↓blockP_ret,↓blockP_pan,↓blockP_exit,↓loopP_n,↓loopP_ret,↓loopP_pan,↓loopP_exit,↓xC_exit,↓xC_ret,↓xOps_nil,↓xOps_cons,↓xOps_guard,↓gW_tt,↓gW_tf,↓gW_ft,↓gW_ff,↓gW_un,↓opW_w,↓opW_ws,↓opW_wn,↓opW_wh,↓opW_value,↓opW_panic,put_some,put_none,target_fn,ev_tmp,ev_func,ev_int,ev_bool,ev_str,ev_nils,ev_nilp,ev_nili,ev_nilf,evs_nil,evs_cons,evp_nil,evp_cons,evo_none,evo_some,opD_move,opD_assign,opD_pick,pickW_true,pickW_false,pickW_bool,opD_bin,opD_not,opD_conv,opD_load,opD_store,opD_indexAddr,opD_index,opD_fieldAddr,opD_field,opD_extract,opD_len',len_str,len_nils,len_vec,len_sl,opD_alloc,opD_append',opD_buildSlice,opD_build,opD_slice',ofO_some,lss_i,leq_i,gtr_i,geq_i,eql_i,neq_i,add_i,sub_i,mul_i,not_b,eql_s,neq_s,lss_s,leq_s,end_ret,end_n,end_pan,Tm.get_set,argT,Nat.reduceEqDiff,Nat.reduceAdd,if_true,if_false,cond_true,cond_false,Bool.true_eq_false,Bool.false_eq_true,Bool.not_true,Bool.not_false,reduceCtorEq,List.toList_toArray,Nat.reduceLT,results?,vals,ite_true,ite_false,↓xDraw_nil,↓xDraw_L,↓xDraw_A,↓LW_some,↓x1_none,↓x1_guard,blur_nil,blur_cons,slotV_some,toO_w,look_none,look_guard,↓gL_tt,↓gL_tf,↓gL_ft,↓gL_ff,↓gL_un,looksSame_nil,looksSame_cons,pendOk_nil,pendOk_cons,List.drop_succ_cons,List.drop_zero,List.take_succ_cons,List.take_zero,List.drop_nil,List.take_nil,Nat.reduceSub,Nat.reduceLeDiff,Nat.lt_irrefl,Nat.sub_self,Nat.sub_zero,Nat.zero_sub,true_and,Bool.and_true,Bool.and_self,Nat.zero_lt_one,Nat.not_lt_zero,Nat.le_refl,Nat.zero_le,Nat.zero_add,t0,t1,t4,t22,hlt,h16,decide_true,decide_false,s15,s2,s16,s7,a15,a2,a16,a7,l15,l2,l16,l7,c7,c18,c17,c19,shr3,shr10,bxor_u,ai,st,hset2_1,hw1,true_and]
    refine⟨_,?_,i+1,rfl,?_,?_⟩
    ·omega
    ·omega
    ·rw[show W b (i+1)=_ from(show(W b i).set i (wrd b (W b i) i)=_ by unfold wrd;rw[if_neg (show ¬i<16 by omega)])]
     first|rfl|exact⟨rfl,rfl⟩|exact⟨trivial,rfl⟩
  ·obtain rfl:i=64:=by omega
   have ld:load? cx [.cells e (us H++(mid++us K)),.cells 384 (us (W b 64))] 291 (.ptr 0 0)=some (.p (.agg (up H))):=by
    rw[load_part a291 s291 rfl (by rw[List.length_append,us_length];omega),List.drop_zero,List.take_left' (by rw[us_length];exact hH),mkAgg_us]
   have fa:fieldAddr? cx 390 (.ptr 0 0) 0=some (.ptr 0 0):=fieldAddr_ptr (m:=9) f390_0 s293
   have fb:fieldAddr? cx 293 (.ptr 0 0) 0=some (.ptr 0 0):=fieldAddr_ptr (m:=7) f293_0 s291
   have fk:fieldAddr? cx 390 (.ptr 0 0) 1=some (.ptr 0 10):=fieldAddr_ptr (m:=63) f390_1 s384
   have sw:∀ (v v':List Int) (x:Ob),v.length=8→v'.length=8→store? cx [x,.cells 384 (us (W b 64)),.cells 291 (us v)] 291 (.ptr 2 0) (.p (.agg (up v')))=.ws undefA 2 (.cells 291 (us v')):=fun v v' x hv hv'=>
    store_whole s291 rfl (show _=some (us v') by rw[us_up];rfl) (by rw[us_length];exact hv') (by rw[us_length];exact hv)
   have sw0:=sw (List.replicate 8 0) H (.cells e (us H++(mid++us K))) rfl hH
   simp only[sc341l11,sc341r2,sc341r12,sc341r13,↓xC_skip,↓xC_reg,↓xC_seq,↓seqP_n,↓seqP_ret,↓seqP_pan,↓seqP_exit,↓xC_cond,↓condW_true,↓condW_false,↓xC_block,↓blockP_n,↓blockP_ret,↓blockP_pan,↓blockP_exit,↓loopP_n,↓loopP_ret,↓loopP_pan,↓loopP_exit,↓xC_exit,↓xC_ret,↓xOps_nil,↓xOps_cons,↓xOps_guard,↓gW_tt,↓gW_tf,↓gW_ft,↓gW_ff,↓gW_un,↓opW_w,↓opW_ws,↓opW_wn,↓opW_wh,↓opW_value,↓opW_panic,put_some,put_none,target_fn,ev_tmp,ev_func,ev_int,ev_bool,ev_str,ev_nils,ev_nilp,ev_nili,ev_nilf,evs_nil,evs_cons,evp_nil,evp_cons,evo_none,evo_some,opD_move,opD_assign,opD_pick,pickW_true,pickW_false,pickW_bool,opD_bin,opD_not,opD_conv,opD_load,opD_store,opD_indexAddr,opD_index,opD_fieldAddr,opD_field,opD_extract,opD_len',len_str,len_nils,len_vec,len_sl,opD_alloc,opD_append',opD_buildSlice,opD_build,opD_slice',ofO_some,lss_i,leq_i,gtr_i,geq_i,eql_i,neq_i,add_i,sub_i,mul_i,not_b,eql_s,neq_s,lss_s,leq_s,end_ret,end_n,end_pan,Tm.get_set,argT,Nat.reduceEqDiff,Nat.reduceAdd,if_true,if_false,cond_true,cond_false,Bool.true_eq_false,Bool.false_eq_true,Bool.not_true,Bool.not_false,reduceCtorEq,List.toList_toArray,Nat.reduceLT,results?,vals,ite_true,ite_false,t0,t1,t4,t22,hlt,decide_false,opD_nilCheck,nilW_ptr,fa,fb,ld,z291,cells_up,List.cons_append,List.nil_append,List.length_cons,List.length_nil,sw0,hset3_2]
   refine xC_loop (fun n t h' d r=>∃ i:Nat,n=64-i∧i≤64∧d=[]∧r=none∧t.get 0=.ptr 0 0∧t.get 4=.ptr 1 0∧t.get 10=.ptr 2 0∧t.get 103=.p (.int .i64 (i:Int))∧h'=[.cells e (us H++(mid++us K)),.cells 384 (us (W b 64)),.cells 291 (us (V K (W b 64) H i))]) 64 ?_ ?_
   ·refine⟨0,rfl,by omega,rfl,rfl,?_⟩
    simp only[↓xC_skip,↓xC_reg,↓xC_seq,↓seqP_n,↓seqP_ret,↓seqP_pan,↓seqP_exit,↓xC_cond,↓condW_true,↓condW_false,↓xC_block,↓blockP_n,↓blockP_ret,↓blockP_pan,↓blockP_exit,↓loopP_n,↓loopP_ret,↓loopP_pan,↓loopP_exit,↓xC_exit,↓xC_ret,↓xOps_nil,↓xOps_cons,↓xOps_guard,↓gW_tt,↓gW_tf,↓gW_ft,↓gW_ff,↓gW_un,↓opW_w,↓opW_ws,↓opW_wn,↓opW_wh,↓opW_value,↓opW_panic,put_some,put_none,target_fn,ev_tmp,ev_func,ev_int,ev_bool,ev_str,ev_nils,ev_nilp,ev_nili,ev_nilf,evs_nil,evs_cons,evp_nil,evp_cons,evo_none,evo_some,opD_move,opD_assign,opD_pick,pickW_true,pickW_false,pickW_bool,opD_bin,opD_not,opD_conv,opD_load,opD_store,opD_indexAddr,opD_index,opD_fieldAddr,opD_field,opD_extract,opD_len',len_str,len_nils,len_vec,len_sl,opD_alloc,opD_append',opD_buildSlice,opD_build,opD_slice',ofO_some,lss_i,leq_i,gtr_i,geq_i,eql_i,neq_i,add_i,sub_i,mul_i,not_b,eql_s,neq_s,lss_s,leq_s,end_ret,end_n,end_pan,Tm.get_set,argT,Nat.reduceEqDiff,Nat.reduceAdd,if_true,if_false,cond_true,cond_false,Bool.true_eq_false,Bool.false_eq_true,Bool.not_true,Bool.not_false,reduceCtorEq,List.toList_toArray,Nat.reduceLT,results?,vals,ite_true,ite_false,true_and,t0,t4]
    first|rfl|exact⟨rfl,rfl⟩|exact⟨trivial,rfl⟩
   ·rintro n t h' d r ⟨i,rfl,hi,rfl,rfl,t0,t4,t10,t103,rfl⟩
    have hw1:IntKind.wrap .i64 ((i:Int)+1)=((i+1:Nat):Int):=by rw[wrap64_id (by omega) (by omega)];omega
    have hV:=V_len K (W b 64) H i hH
    by_cases hlt:(i:Int)<64
    ·have hM:∃ a b' c d e' f g k,V K (W b 64) H i=[a,b',c,d,e',f,g,k]:=by
      match hq:V K (W b 64) H i,hV with
      | [a,b',c,d,e',f,g,k],_=>exact⟨a,b',c,d,e',f,g,k,rfl⟩
     obtain⟨a,b',c,d,e',f,g,k,hVe⟩:=hM
     rw[hVe]
     have x0:indexAddr? cx 291 (.ptr 2 0) (.p (.int .i64 0))=some (.ptr 2 0):=ia (j:=0) u291 (by decide)
     have x1:indexAddr? cx 291 (.ptr 2 0) (.p (.int .i64 1))=some (.ptr 2 1):=ia (j:=1) u291 (by decide)
     have x2:indexAddr? cx 291 (.ptr 2 0) (.p (.int .i64 2))=some (.ptr 2 2):=ia (j:=2) u291 (by decide)
     have x3:indexAddr? cx 291 (.ptr 2 0) (.p (.int .i64 3))=some (.ptr 2 3):=ia (j:=3) u291 (by decide)
     have x4:indexAddr? cx 291 (.ptr 2 0) (.p (.int .i64 4))=some (.ptr 2 4):=ia (j:=4) u291 (by decide)
     have x5:indexAddr? cx 291 (.ptr 2 0) (.p (.int .i64 5))=some (.ptr 2 5):=ia (j:=5) u291 (by decide)
     have x6:indexAddr? cx 291 (.ptr 2 0) (.p (.int .i64 6))=some (.ptr 2 6):=ia (j:=6) u291 (by decide)
     have x7:indexAddr? cx 291 (.ptr 2 0) (.p (.int .i64 7))=some (.ptr 2 7):=ia (j:=7) u291 (by decide)
     have l0:load? cx [.cells e (us H++(mid++us K)),.cells 384 (us (W b 64)),.cells 291 (us [a,b',c,d,e',f,g,k])] 290 (.ptr 2 0)=some (.p (.int .u32 a)):=load_one a290 rfl rfl
     have l1:load? cx [.cells e (us H++(mid++us K)),.cells 384 (us (W b 64)),.cells 291 (us [a,b',c,d,e',f,g,k])] 290 (.ptr 2 1)=some (.p (.int .u32 b')):=load_one a290 rfl rfl
     have l2:load? cx [.cells e (us H++(mid++us K)),.cells 384 (us (W b 64)),.cells 291 (us [a,b',c,d,e',f,g,k])] 290 (.ptr 2 2)=some (.p (.int .u32 c)):=load_one a290 rfl rfl
     have l3:load? cx [.cells e (us H++(mid++us K)),.cells 384 (us (W b 64)),.cells 291 (us [a,b',c,d,e',f,g,k])] 290 (.ptr 2 3)=some (.p (.int .u32 d)):=load_one a290 rfl rfl
     have l4:load? cx [.cells e (us H++(mid++us K)),.cells 384 (us (W b 64)),.cells 291 (us [a,b',c,d,e',f,g,k])] 290 (.ptr 2 4)=some (.p (.int .u32 e')):=load_one a290 rfl rfl
     have l5:load? cx [.cells e (us H++(mid++us K)),.cells 384 (us (W b 64)),.cells 291 (us [a,b',c,d,e',f,g,k])] 290 (.ptr 2 5)=some (.p (.int .u32 f)):=load_one a290 rfl rfl
     have l6:load? cx [.cells e (us H++(mid++us K)),.cells 384 (us (W b 64)),.cells 291 (us [a,b',c,d,e',f,g,k])] 290 (.ptr 2 6)=some (.p (.int .u32 g)):=load_one a290 rfl rfl
     have l7:load? cx [.cells e (us H++(mid++us K)),.cells 384 (us (W b 64)),.cells 291 (us [a,b',c,d,e',f,g,k])] 290 (.ptr 2 7)=some (.p (.int .u32 k)):=load_one a290 rfl rfl
     have aK:indexAddr? cx 384 (.ptr 0 10) (.p (.int .i64 (i:Int)))=some (.ptr 0 (10+i)):=ia u384 (by omega)
     have lK:load? cx [.cells e (us H++(mid++us K)),.cells 384 (us (W b 64)),.cells 291 (us [a,b',c,d,e',f,g,k])] 290 (.ptr 0 (10+i))=some (.p (.int .u32 (K.getD i 0))):=by
      refine load_one a290 rfl ?_
      rw[List.getElem?_append_right (by rw[us_length];omega),List.getElem?_append_right (by rw[us_length];omega),us_length,hH,hm,show 10+i-8-2=i by omega]
      exact us_get (by omega)
     have aW:indexAddr? cx 384 (.ptr 1 0) (.p (.int .i64 (i:Int)))=some (.ptr 1 i):=by rw[ia u384 (by omega),Nat.zero_add]
     have lW:load? cx [.cells e (us H++(mid++us K)),.cells 384 (us (W b 64)),.cells 291 (us [a,b',c,d,e',f,g,k])] 290 (.ptr 1 i)=some (.p (.int .u32 ((W b 64).getD i 0))):=load_one a290 rfl (us_get (by rw[W_len];omega))
     have sw1:=fun v' hv'=>sw [a,b',c,d,e',f,g,k] v' (.cells e (us H++(mid++us K))) rfl hv'
     have sw2:=fun a1 a2 a3 a4 a5 a6 a7 a8=>sw1 [a1,a2,a3,a4,a5,a6,a7,a8] rfl
     simp only[sc341l22,sc341r14,sc341r15,sc341d16_x,sc341r16,sc341d17_x,sc341r17,sc341d18_x,sc341r18,sc341r19,sc341r20,sc341r21,↓xC_skip,↓xC_reg,↓xC_seq,↓seqP_n,↓seqP_ret,↓seqP_pan,↓seqP_exit,↓xC_cond,↓condW_true,↓condW_false,↓xC_block,↓blockP_n,↓blockP_ret,↓blockP_pan,↓blockP_exit,↓loopP_n,↓loopP_ret,↓loopP_pan,↓loopP_exit,↓xC_exit,↓xC_ret,↓xOps_nil,↓xOps_cons,↓xOps_guard,↓gW_tt,↓gW_tf,↓gW_ft,↓gW_ff,↓gW_un,↓opW_w,↓opW_ws,↓opW_wn,↓opW_wh,↓opW_value,↓opW_panic,put_some,put_none,target_fn,ev_tmp,ev_func,ev_int,ev_bool,ev_str,ev_nils,ev_nilp,ev_nili,ev_nilf,evs_nil,evs_cons,evp_nil,evp_cons,evo_none,evo_some,opD_move,opD_assign,opD_pick,pickW_true,pickW_false,pickW_bool,opD_bin,opD_not,opD_conv,opD_load,opD_store,opD_indexAddr,opD_index,opD_fieldAddr,opD_field,opD_extract,opD_len',len_str,len_nils,len_vec,len_sl,opD_alloc,opD_append',opD_buildSlice,opD_build,opD_slice',ofO_some,lss_i,leq_i,gtr_i,geq_i,eql_i,neq_i,add_i,sub_i,mul_i,not_b,eql_s,neq_s,lss_s,leq_s,end_ret,end_n,end_pan,Tm.get_set,argT,Nat.reduceEqDiff,Nat.reduceAdd,if_true,if_false,cond_true,cond_false,Bool.true_eq_false,Bool.false_eq_true,Bool.not_true,Bool.not_false,reduceCtorEq,List.toList_toArray,Nat.reduceLT,results?,vals,ite_true,ite_false,↓xDraw_nil,↓xDraw_L,↓xDraw_A,↓LW_some,↓x1_none,↓x1_guard,blur_nil,blur_cons,slotV_some,toO_w,look_none,look_guard,↓gL_tt,↓gL_tf,↓gL_ft,↓gL_ff,↓gL_un,looksSame_nil,looksSame_cons,pendOk_nil,pendOk_cons,List.drop_succ_cons,List.drop_zero,List.take_succ_cons,List.take_zero,List.drop_nil,List.take_nil,Nat.reduceSub,Nat.reduceLeDiff,Nat.lt_irrefl,Nat.sub_self,Nat.sub_zero,Nat.zero_sub,true_and,Bool.and_true,Bool.and_self,Nat.zero_lt_one,Nat.not_lt_zero,Nat.le_refl,Nat.zero_le,Nat.zero_add,t0,t4,t10,t103,hlt,decide_true,x0,x1,x2,x3,x4,x5,x6,x7,l0,l1,l2,l3,l4,l5,l6,l7,fk,aK,lK,aW,lW,c6,c11,c25,c2,c13,c22,bxor_u,band_u,opD_unxor,unot_u,b291,sw2,hset3_2,hw1,true_and,opD_nilCheck,nilW_ptr]
     refine⟨_,?_,i+1,rfl,?_,?_⟩
     ·omega
     ·omega
     ·have:V K (W b 64) H (i+1)=rnd (K.getD i 0) ((W b 64).getD i 0) [a,b',c,d,e',f,g,k]:=by
       show rnd _ _ (V K (W b 64) H i)=_
       rw[hVe]
      rw[this]
      first|rfl|exact⟨rfl,rfl⟩|exact⟨trivial,rfl⟩
    ·obtain rfl:i=64:=by omega
     have lv:load? cx [.cells e (us H++(mid++us K)),.cells 384 (us (W b 64)),.cells 291 (us (V K (W b 64) H 64))] 291 (.ptr 2 0)=some (.p (.agg (up (V K (W b 64) H 64)))):=by
      rw[load_whole a291 s291 rfl (by rw[us_length];exact hV),mkAgg_us]
     simp only[sc341l22,sc341r14,sc341r23,↓xC_skip,↓xC_reg,↓xC_seq,↓seqP_n,↓seqP_ret,↓seqP_pan,↓seqP_exit,↓xC_cond,↓condW_true,↓condW_false,↓xC_block,↓blockP_n,↓blockP_ret,↓blockP_pan,↓blockP_exit,↓loopP_n,↓loopP_ret,↓loopP_pan,↓loopP_exit,↓xC_exit,↓xC_ret,↓xOps_nil,↓xOps_cons,↓xOps_guard,↓gW_tt,↓gW_tf,↓gW_ft,↓gW_ff,↓gW_un,↓opW_w,↓opW_ws,↓opW_wn,↓opW_wh,↓opW_value,↓opW_panic,put_some,put_none,target_fn,ev_tmp,ev_func,ev_int,ev_bool,ev_str,ev_nils,ev_nilp,ev_nili,ev_nilf,evs_nil,evs_cons,evp_nil,evp_cons,evo_none,evo_some,opD_move,opD_assign,opD_pick,pickW_true,pickW_false,pickW_bool,opD_bin,opD_not,opD_conv,opD_load,opD_store,opD_indexAddr,opD_index,opD_fieldAddr,opD_field,opD_extract,opD_len',len_str,len_nils,len_vec,len_sl,opD_alloc,opD_append',opD_buildSlice,opD_build,opD_slice',ofO_some,lss_i,leq_i,gtr_i,geq_i,eql_i,neq_i,add_i,sub_i,mul_i,not_b,eql_s,neq_s,lss_s,leq_s,end_ret,end_n,end_pan,Tm.get_set,argT,Nat.reduceEqDiff,Nat.reduceAdd,if_true,if_false,cond_true,cond_false,Bool.true_eq_false,Bool.false_eq_true,Bool.not_true,Bool.not_false,reduceCtorEq,List.toList_toArray,Nat.reduceLT,results?,vals,ite_true,ite_false,t0,t4,t10,t103,hlt,decide_false,lv]
     refine xC_loop (fun n t h' d r=>∃ i:Nat,n=8-i∧i≤8∧d=[]∧r=none∧t.get 0=.ptr 0 0∧t.get 184=.p (.agg (up (V K (W b 64) H 64)))∧t.get 185=.p (.int .i64 (i:Int))∧h'=[.cells e (us (HH (V K (W b 64) H 64) H i)++(mid++us K)),.cells 384 (us (W b 64)),.cells 291 (us (V K (W b 64) H 64))]) 8 ?_ ?_
     ·refine⟨0,rfl,by omega,rfl,rfl,?_⟩
      simp only[↓xC_skip,↓xC_reg,↓xC_seq,↓seqP_n,↓seqP_ret,↓seqP_pan,↓seqP_exit,↓xC_cond,↓condW_true,↓condW_false,↓xC_block,↓blockP_n,↓blockP_ret,↓blockP_pan,↓blockP_exit,↓loopP_n,↓loopP_ret,↓loopP_pan,↓loopP_exit,↓xC_exit,↓xC_ret,↓xOps_nil,↓xOps_cons,↓xOps_guard,↓gW_tt,↓gW_tf,↓gW_ft,↓gW_ff,↓gW_un,↓opW_w,↓opW_ws,↓opW_wn,↓opW_wh,↓opW_value,↓opW_panic,put_some,put_none,target_fn,ev_tmp,ev_func,ev_int,ev_bool,ev_str,ev_nils,ev_nilp,ev_nili,ev_nilf,evs_nil,evs_cons,evp_nil,evp_cons,evo_none,evo_some,opD_move,opD_assign,opD_pick,pickW_true,pickW_false,pickW_bool,opD_bin,opD_not,opD_conv,opD_load,opD_store,opD_indexAddr,opD_index,opD_fieldAddr,opD_field,opD_extract,opD_len',len_str,len_nils,len_vec,len_sl,opD_alloc,opD_append',opD_buildSlice,opD_build,opD_slice',ofO_some,lss_i,leq_i,gtr_i,geq_i,eql_i,neq_i,add_i,sub_i,mul_i,not_b,eql_s,neq_s,lss_s,leq_s,end_ret,end_n,end_pan,Tm.get_set,argT,Nat.reduceEqDiff,Nat.reduceAdd,if_true,if_false,cond_true,cond_false,Bool.true_eq_false,Bool.false_eq_true,Bool.not_true,Bool.not_false,reduceCtorEq,List.toList_toArray,Nat.reduceLT,results?,vals,ite_true,ite_false,true_and,t0]
      first|rfl|exact⟨rfl,rfl⟩|exact⟨trivial,rfl⟩
     ·rintro n t h' d r ⟨i,rfl,hi,rfl,rfl,t0,t184,t185,rfl⟩
      have hw1:IntKind.wrap .i64 ((i:Int)+1)=((i+1:Nat):Int):=by rw[wrap64_id (by omega) (by omega)];omega
      have hl:=HH_len (V K (W b 64) H 64) H i hH
      by_cases hlt:(i:Int)<8
      ·have hxi:index? cx 291 (.p (.agg (up (V K (W b 64) H 64)))) (.p (.int .i64 (i:Int)))=some (.p (.int .u32 ((V K (W b 64) H 64).getD i 0))):=
        index_arr u291 s290 a290 (by omega) hlt (by rw[Int.toNat_natCast];exact up_get (by omega))
       have aH:indexAddr? cx 291 (.ptr 0 0) (.p (.int .i64 (i:Int)))=some (.ptr 0 i):=by rw[ia u291 (by omega),Nat.zero_add]
       have lH:load? cx [.cells e (us (HH (V K (W b 64) H 64) H i)++(mid++us K)),.cells 384 (us (W b 64)),.cells 291 (us (V K (W b 64) H 64))] 290 (.ptr 0 i)=some (.p (.int .u32 ((HH (V K (W b 64) H 64) H i).getD i 0))):=by
        refine load_one a290 rfl ?_
        rw[List.getElem?_append_left (by rw[us_length];omega)]
        exact us_get (by omega)
       have sH:∀ n:Int,store? cx [.cells e (us (HH (V K (W b 64) H 64) H i)++(mid++us K)),.cells 384 (us (W b 64)),.cells 291 (us (V K (W b 64) H 64))] 290 (.ptr 0 i) (.p (.int .u32 n))=.ws undefA 0 (.cells e (us ((HH (V K (W b 64) H 64) H i).set i n)++(mid++us K))):=fun n=>by
        rw[store_one s290 rfl rfl (by rw[List.length_append,us_length];omega),List.set_append_left _ _ (by rw[us_length];omega),us_set]
       simp only[sc341l28,sc341r24,sc341r25,sc341d26_x,sc341r26,sc341r27,↓xC_skip,↓xC_reg,↓xC_seq,↓seqP_n,↓seqP_ret,↓seqP_pan,↓seqP_exit,↓xC_cond,↓condW_true,↓condW_false,↓xC_block,↓blockP_n,↓blockP_ret,↓blockP_pan,↓blockP_exit,↓loopP_n,↓loopP_ret,↓loopP_pan,↓loopP_exit,↓xC_exit,↓xC_ret,↓xOps_nil,↓xOps_cons,↓xOps_guard,↓gW_tt,↓gW_tf,↓gW_ft,↓gW_ff,↓gW_un,↓opW_w,↓opW_ws,↓opW_wn,↓opW_wh,↓opW_value,↓opW_panic,put_some,put_none,target_fn,ev_tmp,ev_func,ev_int,ev_bool,ev_str,ev_nils,ev_nilp,ev_nili,ev_nilf,evs_nil,evs_cons,evp_nil,evp_cons,evo_none,evo_some,opD_move,opD_assign,opD_pick,pickW_true,pickW_false,pickW_bool,opD_bin,opD_not,opD_conv,opD_load,opD_store,opD_indexAddr,opD_index,opD_fieldAddr,opD_field,opD_extract,opD_len',len_str,len_nils,len_vec,len_sl,opD_alloc,opD_append',opD_buildSlice,opD_build,opD_slice',ofO_some,lss_i,leq_i,gtr_i,geq_i,eql_i,neq_i,add_i,sub_i,mul_i,not_b,eql_s,neq_s,lss_s,leq_s,end_ret,end_n,end_pan,Tm.get_set,argT,Nat.reduceEqDiff,Nat.reduceAdd,if_true,if_false,cond_true,cond_false,Bool.true_eq_false,Bool.false_eq_true,Bool.not_true,Bool.not_false,reduceCtorEq,List.toList_toArray,Nat.reduceLT,results?,vals,ite_true,ite_false,↓xDraw_nil,↓xDraw_L,↓xDraw_A,↓LW_some,↓x1_none,↓x1_guard,blur_nil,blur_cons,slotV_some,toO_w,look_none,look_guard,↓gL_tt,↓gL_tf,↓gL_ft,↓gL_ff,↓gL_un,looksSame_nil,looksSame_cons,pendOk_nil,pendOk_cons,List.drop_succ_cons,List.drop_zero,List.take_succ_cons,List.take_zero,List.drop_nil,List.take_nil,Nat.reduceSub,Nat.reduceLeDiff,Nat.lt_irrefl,Nat.sub_self,Nat.sub_zero,Nat.zero_sub,true_and,Bool.and_true,Bool.and_self,Nat.zero_lt_one,Nat.not_lt_zero,Nat.le_refl,Nat.zero_le,Nat.zero_add,t0,t184,t185,hlt,decide_true,hxi,aH,lH,sH,fa,fb,hset3_0,hw1,true_and,opD_nilCheck,nilW_ptr]
       refine⟨_,?_,i+1,rfl,?_,?_⟩
       ·omega
       ·omega
       ·first|rfl|exact⟨rfl,rfl⟩|exact⟨trivial,rfl⟩
      ·obtain rfl:i=8:=by omega
       simp only[sc341l28,sc341r24,↓xC_skip,↓xC_reg,↓xC_seq,↓seqP_n,↓seqP_ret,↓seqP_pan,↓seqP_exit,↓xC_cond,↓condW_true,↓condW_false,↓xC_block,↓blockP_n,↓blockP_ret,↓blockP_pan,↓blockP_exit,↓loopP_n,↓loopP_ret,↓loopP_pan,↓loopP_exit,↓xC_exit,↓xC_ret,↓xOps_nil,↓xOps_cons,↓xOps_guard,↓gW_tt,↓gW_tf,↓gW_ft,↓gW_ff,↓gW_un,↓opW_w,↓opW_ws,↓opW_wn,↓opW_wh,↓opW_value,↓opW_panic,put_some,put_none,target_fn,ev_tmp,ev_func,ev_int,ev_bool,ev_str,ev_nils,ev_nilp,ev_nili,ev_nilf,evs_nil,evs_cons,evp_nil,evp_cons,evo_none,evo_some,opD_move,opD_assign,opD_pick,pickW_true,pickW_false,pickW_bool,opD_bin,opD_not,opD_conv,opD_load,opD_store,opD_indexAddr,opD_index,opD_fieldAddr,opD_field,opD_extract,opD_len',len_str,len_nils,len_vec,len_sl,opD_alloc,opD_append',opD_buildSlice,opD_build,opD_slice',ofO_some,lss_i,leq_i,gtr_i,geq_i,eql_i,neq_i,add_i,sub_i,mul_i,not_b,eql_s,neq_s,lss_s,leq_s,end_ret,end_n,end_pan,Tm.get_set,argT,Nat.reduceEqDiff,Nat.reduceAdd,if_true,if_false,cond_true,cond_false,Bool.true_eq_false,Bool.false_eq_true,Bool.not_true,Bool.not_false,reduceCtorEq,List.toList_toArray,Nat.reduceLT,results?,vals,ite_true,ite_false,t0,t184,t185,hlt,decide_false]
       first|rfl|exact⟨rfl,rfl⟩|exact⟨trivial,rfl⟩
def wrdF(b:List UInt8) (w:List Int) (i:Nat):Int:=
 cond (Nat.blt i 16) (orF (orF (orF (slF (.ofNat (b.getD (Nat.mul 4 i) 0).toNat) 24) (slF (.ofNat (b.getD (Nat.add (Nat.mul 4 i) 1) 0).toNat) 16)) (slF (.ofNat (b.getD (Nat.add (Nat.mul 4 i) 2) 0).toNat) 8)) (.ofNat (b.getD (Nat.add (Nat.mul 4 i) 3) 0).toNat))
  (forceI (w.getD (Nat.sub i 15) 0) fun x=>forceI (w.getD (Nat.sub i 2) 0) fun y=>
   adF (adF (adF (w.getD (Nat.sub i 16) 0) (xrF (xrF (rotF x 25) (rotF x 14)) (srF x 3))) (w.getD (Nat.sub i 7) 0)) (xrF (xrF (rotF y 15) (rotF y 13)) (srF y 10)))
theorem byt_eq(b i):byt b i=Int.ofNat (b.getD i 0).toNat:=by
 unfold byt
 exact wrapU_lt (Nat.lt_of_lt_of_le (UInt8.toNat_lt _) (by decide))
theorem wrdF_eq(b w i):wrdF b w i=wrd b w i:=by
 unfold wrdF wrd
 by_cases h:i<16
 ·rw[if_pos h,show Nat.blt i 16=true from Nat.ble_eq_true_of_le h]
  simp only[cond,orF_eq,slF_eq,byt_eq];rfl
 ·rw[if_neg h,show Nat.blt i 16=false from Bool.eq_false_iff.2 fun q=>h (Nat.le_of_ble_eq_true q)]
  simp only[cond,forceI_eq,adF_eq,xrF_eq,rotF_eq,srF_eq];rfl
noncomputable def goW{R:Type} (b:List UInt8) (n:Nat):Nat→List Int→(List Int→R)→R:=
 Nat.rec (motive:=fun _=>Nat→List Int→(List Int→R)→R) (fun _ w f=>f w)
  (fun _ ih i w f=>forceI (wrdF b w i) fun x=>lnfI (w.set i x) fun w=>forceN (Nat.succ i) fun i=>ih i w f) n
theorem goW_eq{R:Type} (b):∀ (n i:Nat) (f:List Int→R),goW b n i (W b i) f=f (W b (i+n)):=by
 intro n
 induction n with
 |zero=>intro i f;rfl
 |succ n ih=>
  intro i f
  show forceI (wrdF b (W b i) i) (fun x=>lnfI ((W b i).set i x) fun w=>forceN (Nat.succ i) fun i=>goW b n i w f)=_
  rw[forceI_eq,lnfI_eq,forceN_eq,wrdF_eq]
  show goW b n (i+1) (W b (i+1)) f=_
  rw[ih,show i+1+n=i+(n+1) by omega]
noncomputable def rndF{R:Type} (k w:Int) (v:List Int) (F:List Int→R):R:=
 match v with
 | [a,b,c,d,e,f,g,h]=>
  forceI (adF (adF (adF (adF h (xrF (xrF (rotF e 26) (rotF e 21)) (rotF e 7))) (xrF (anF e f) (anF (ntF e) g))) k) w) fun t1=>
  forceI (adF t1 (adF (xrF (xrF (rotF a 30) (rotF a 19)) (rotF a 10)) (xrF (xrF (anF a b) (anF a c)) (anF b c)))) fun x=>
  forceI (adF d t1) fun y=>F [x,a,b,c,y,e,f,g]
 |v=>F v
theorem rndF_eq{R:Type} (k w v) (F:List Int→R):rndF k w v F=F (rnd k w v):=by
 match v with
 | [a,b,c,d,e,f,g,h]=>
  simp only[rndF,rnd,forceI_eq,adF_eq,xrF_eq,rotF_eq,anF_eq,ntF_eq]
 | [] | [_] | [_,_] | [_,_,_] | [_,_,_,_] | [_,_,_,_,_] | [_,_,_,_,_,_] | [_,_,_,_,_,_,_]|_::_::_::_::_::_::_::_::_::_=>rfl
noncomputable def goV{R:Type} (ks ws:List Int) (n:Nat):Nat→List Int→(List Int→R)→R:=
 Nat.rec (motive:=fun _=>Nat→List Int→(List Int→R)→R) (fun _ v f=>f v)
  (fun _ ih i v f=>rndF (ks.getD i 0) (ws.getD i 0) v fun v=>forceN (Nat.succ i) fun i=>ih i v f) n
theorem goV_eq{R:Type} (ks ws v):∀ (n i:Nat) (f:List Int→R),goV ks ws n i (V ks ws v i) f=f (V ks ws v (i+n)):=by
 intro n
 induction n with
 |zero=>intro i f;rfl
 |succ n ih=>
  intro i f
  show rndF (ks.getD i 0) (ws.getD i 0) (V ks ws v i) (fun v=>forceN (Nat.succ i) fun i=>goV ks ws n i v f)=_
  rw[rndF_eq,forceN_eq]
  show goV ks ws n (i+1) (V ks ws v (i+1)) f=_
  rw[ih,show i+1+n=i+(n+1) by omega]
noncomputable def goH{R:Type} (v:List Int) (n:Nat):Nat→List Int→(List Int→R)→R:=
 Nat.rec (motive:=fun _=>Nat→List Int→(List Int→R)→R) (fun _ w f=>f w)
  (fun _ ih i w f=>lnfI (w.set i (adF (w.getD i 0) (v.getD i 0))) fun w=>forceN (Nat.succ i) fun i=>ih i w f) n
theorem goH_eq{R:Type} (v h):∀ (n i:Nat) (f:List Int→R),goH v n i (HH v h i) f=f (HH v h (i+n)):=by
 intro n
 induction n with
 |zero=>intro i f;rfl
 |succ n ih=>
  intro i f
  show lnfI ((HH v h i).set i (adF ((HH v h i).getD i 0) (v.getD i 0))) (fun w=>forceN (Nat.succ i) fun i=>goH v n i w f)=_
  rw[lnfI_eq,forceN_eq,adF_eq]
  show goH v n (i+1) (HH v h (i+1)) f=_
  rw[ih,show i+1+n=i+(n+1) by omega]
noncomputable def blkGo(e:TypeId) (b:List UInt8) (H K:List Int) (m1 m2:AV):Option (AEnd×List Ob):=
 lnfI (List.replicate 64 0) fun w0=>goW b 64 0 w0 fun w=>goV K w 64 0 H fun v=>goH v 8 0 H fun hh=>
  lnf (us hh++([m1,m2]++us K)) fun cs=>lnf (us w) fun w=>lnf (us v) fun v=>some (.ret (.tup []),[.cells e cs,.cells 384 w,.cells 291 v])
theorem blkGo_eq(e b H K m1 m2):blkGo e b H K m1 m2=some (.ret (.tup []),blkEnd e b H K [m1,m2]):=by
 unfold blkGo
 rw[lnfI_eq]
 show goW b 64 0 (W b 0) _=_
 rw[goW_eq]
 show goV K (W b 64) 64 0 (V K (W b 64) H 0) _=_
 rw[goV_eq]
 show goH (V K (W b 64) H 64) 8 0 (HH (V K (W b 64) H 64) H 0) _=_
 rw[goH_eq]
 simp only[lnf_eq,Nat.zero_add]
 rfl
noncomputable def blkO(args:List AV) (h:List Ob):Option (AEnd×List Ob):=
 match args with
 | []=>none
 |a::rest=>(match rest with
  | []=>none
  |s::l=>(match l with
   |_::_=>none
   | []=>(match a with
    |.ptr i o=>cond (Nat.beq i 0&&Nat.beq o 0) (match s with
     |.p q=>(match q with
      |.str b=>cond (Nat.beq b.length 64) (match h with
       | []=>none
       |ob::l=>(match l with
        |_::_=>none
        | []=>(match ob with
         |.cells e cs=>(match rdU 8 cs with
          |some x=>(match x with
           | (H,r)=>(match r with
            |m1::m2::r=>(match rdU 64 r with
             |some x=>(match x with
              | (K,r)=>(match r with | []=>blkGo e b H K m1 m2|_=>none))
             |none=>none)
            |_=>none))
          |none=>none)
         |_=>none))) none
      |_=>none)
     |_=>none) none
    |_=>none)))
theorem o0_ok:OrcOk cx Tryz.prog o0:=noneOrc_ok _ _
theorem blkO_ok{args h e h'} (H:blkO args h=some (e,h')):CallAt cx Tryz.prog (.fn 341 args) h none e h' none:=by
 unfold blkO at H
 split at H
 ·cases H
 rename_i a rest
 split at H
 ·cases H
 rename_i s l
 split at H
 ·cases H
 split at H
 ·rename_i i o
  cases hio:(Nat.beq i 0&&Nat.beq o 0)with
  |false=>rw[hio]at H;cases H
  |true=>
   rw[hio]at H
   simp only[Bool.and_eq_true,Nat.beq_eq]at hio
   obtain⟨rfl,rfl⟩:=hio
   simp only[cond]at H
   split at H
   ·split at H
    ·rename_i b
     cases hb:Nat.beq b.length 64 with
     |false=>rw[hb]at H;cases H
     |true=>
      rw[hb]at H
      have hb:=Nat.eq_of_beq_eq_true hb
      simp only at H
      split at H
      ·cases H
      split at H
      ·cases H
      split at H
      ·rename_i e0 cs
       split at H
       ·rename_i H0 r hx
        split at H
        ·rename_i m1 m2 r
         split at H
         ·rename_i K r' hx2
          split at H
          ·obtain⟨rfl,h8⟩:=rdU_ok hx
           obtain⟨rfl,h64⟩:=rdU_ok hx2
           rw[blkGo_eq]at H
           cases H
           rename_i heq
           rw[r,heq,List.append_nil]
           obtain⟨e1,h1,⟨k0,hk⟩,rfl,rfl⟩:=blk_ct (e:=e0) (b:=b) (mid:=[_,_]) hb h8 h64 rfl
           exact callN_ok cx_ok o0_ok k0 _ _ _ _ _ _ (hk k0 (Nat.le_refl _))
          ·cases H
         ·cases H
        ·cases H
       ·cases H
      ·cases H
    ·cases H
   ·cases H
 ·cases H
noncomputable def blkOrc:Orc:=orElse 341 blkO constOrc
theorem blkOrc_ok:OrcOk cx Tryz.prog blkOrc:=orElse_ok constOrc_ok fun args h e h' ho=>blkO_ok ho
end Go.Proofs

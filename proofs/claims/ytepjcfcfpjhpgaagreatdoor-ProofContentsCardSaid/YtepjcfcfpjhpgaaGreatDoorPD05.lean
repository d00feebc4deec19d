/- What is proved: the contract of the specification's Parse ('parse21'). Conditions: the text has less than 100000 bytes. -/
import Derived.Test.YtepjcfcfpjhpgaaGreatDoorPD04
set_option linter.all false
set_option maxRecDepth 100000
namespace Go.Proofs
open Go Go.Ai
theorem rF_at{L:Int} {s:List UInt8} {b:Nat} (hb:b<s.length):rF L (s.drop b)=if L=0 then(decide (s.getD b 0=1),s.drop (b+1))else(false,s.drop b):=by
 unfold rF
 rw[List.drop_drop]
 have:(s.drop b).headD 0=s.getD b 0:=by
  rw[List.drop_eq_getElem_cons hb]
  simp [List.getD,hb]
 rw[this]
theorem rN_at{L:Int} {t:Bool} {s:List UInt8} {b:Nat} (hb:b≤s.length):rN L t (s.drop b)=if L > 0∨t=true then(if s.length<b+4 then none else some (((nm ((s.drop b).take 4) 0:Nat):Int),s.drop (b+4)))else some (0,s.drop b):=by
 unfold rN
 rw[List.drop_drop,List.length_drop]
 by_cases h:s.length<b+4
 ·rw[if_pos h,if_pos (show s.length-b<4 by omega)]
 ·rw[if_neg h,if_neg (show ¬s.length-b<4 by omega)]
theorem rM_at{k:List UInt8} {t:Bool} {c:Int} {s:List UInt8} {b:Nat} (hb:b≤s.length):rM k t c (s.drop b)=if s.length<b+16 then none else some (⟨k,t,c,(s.drop b).take 16⟩,s.drop (b+16)):=by
 unfold rM
 rw[List.drop_drop,List.length_drop]
 by_cases h:s.length<b+16
 ·rw[if_pos h,if_pos (show s.length-b<16 by omega)]
 ·rw[if_neg h,if_neg (show ¬s.length-b<16 by omega)]
theorem rI_at{L:Int} {s:List UInt8} {a k:Nat} (ha:a<s.length) (hk:(s.getD a 0).toNat=k):rI L (s.drop a)=if s.length≤a+1+k then none else
  match rN L (rF L (s.drop (a+1+k))).1 (rF L (s.drop (a+1+k))).2 with
  |none=>none
  |some (c,q)=>rM ((s.drop (a+1)).take k) (rF L (s.drop (a+1+k))).1 c q:=by
 have hg:s[a].toNat=k:=by rw[← hk];simp [List.getD,ha]
 rw[List.drop_eq_getElem_cons ha]
 unfold rI
 simp only[hg,List.drop_drop,List.length_drop]
 by_cases h:s.length≤a+1+k
 ·rw[if_pos h,if_pos (show s.length-(a+1)≤k by omega)]
 ·rw[if_neg h,if_neg (show ¬s.length-(a+1)≤k by omega)]
  rfl
theorem rI_no{L:Int} {s:List UInt8} {a:Nat} (ha:s.length≤a):rI L (s.drop a)=none:=by
 rw[List.drop_of_length_le ha];rfl
theorem it_ss{h:List Ob} {i k:Nat} {x:Itm} {v:UInt8} (hi:hget h i=x.c) (hx:x.ok) (hk:k<16):store? cx h 5 (.ptr i (3+k)) (.p (.int .u8 (v.toNat:Int)))=.ws undefA i ({x with sum:=x.sum.set k v}:Itm).c:=by
 rw[store_one s5 hi rfl (by rw[List.length_map,Itm.len hx];omega)]
 congr 1
 show Ob.cells 46 _=Ob.cells 46 _
 congr 1
 unfold Itm.cs bytesPV
 rw[Nat.add_comm 3 k]
 simp [List.set_cons_succ,List.map_set]
theorem b55_1:build? cx 55 [(1,.p (.int .i64 2))]=some (.p (.agg [.int .i64 0,.nils,.int .i64 2])):=by kernel_rfl
theorem z55:zero? cx 55=some (.agg [.int .i64 0,.nils,.int .i64 0]):=by kernel_rfl
theorem b44_0(n:Int):build? cx 44 [(0,.p (.int .i64 n))]=some (.p (.agg [.int .i64 n,.nils])):=by kernel_rfl
def RaP(s:List UInt8) (e:AEnd) (h1:List Ob):Prop:=∃ X l xs E v cv,e=.ret X∧X.cells?=some [.p (.int .i64 l),v,.p (.int .i64 E)]∧Co1 h1 v cv∧IsS 19 cv (xs.map Itm.V) ∧
 (match paR s with|some (m,ys)=>E=0∧l=m∧xs=ys|none=>E=2∧l=0∧xs=[])
open Classical in
theorem paR_r{s:List UInt8}:paR s=rC VP s:=(rC_eq VP vp_known s).symm
structure RT (s:List UInt8) (n k i a:Nat) (t:Tm):Prop where
 t0:t.get 0=.p (.str s)
 t2:t.get 2=.ptr 0 0
 t3:t.get 3=.ptr 1 0
 t4:t.get 4=.ptr 2 0
 t5:t.get 5=.p (.int .i64 (n:Int))
 t6:t.get 6=.p (.int .i64 (a:Int))
 t7:t.get 7=.p (.int .i64 (k:Int))
 t8:t.get 8=.ptr i 0
abbrev zO:Ob:=.cells 55 [.p (.int .i64 0),.p .nils,.p (.int .i64 0)]
abbrev bO:Ob:=.cells 55 [.p (.int .i64 0),.p .nils,.p (.int .i64 2)]
structure RH (L:Int) (b:AV) (acc:List Itm) (i:Nat) (y:Itm) (h:List Ob):Prop where
 g0:hget h 0=zO
 g1:hget h 1=bO
 g2:hget h 2=.cells 44 [.p (.int .i64 L),b]
 gi:hget h i=y.c
 own:Own h 46 19 b (acc.map Itm.V)
 ids:∀ j∈ids1 b,3≤j∧j ≠ i
 i3:3≤i
 ok:y.ok
theorem own_hs{h:List Ob} {b:AV} {xs:List PV} {i:Nat} {q:Ob} (H:Own h 46 19 b xs) (hi:∀ j∈ids1 b,j ≠ i) (hl:i<h.length):Own (hset h i q) 46 19 b xs:=by
 cases H with
 |nil=>exact .nil
 |row hr=>
  have:=hi _ (List.mem_singleton.2 rfl)
  exact .row (by rw[hget_hset _ _ _ _ hl,if_neg this];exact hr)
theorem RH.hs{L b acc i y h} (H:RH L b acc i y h) {y':Itm} (hy:y'.ok):RH L b acc i y' (hset h i y'.c):=by
 have hl:i<h.length:=hget_cells_lt H.gi
 have h3:=H.i3
 refine⟨?_,?_,?_,?_,own_hs H.own (fun j hj=>(H.ids j hj).2) hl,H.ids,h3,hy⟩
 ·rw[hget_hset _ _ _ _ hl,if_neg (by omega)];exact H.g0
 ·rw[hget_hset _ _ _ _ hl,if_neg (by omega)];exact H.g1
 ·rw[hget_hset _ _ _ _ hl,if_neg (by omega)];exact H.g2
 ·rw[hget_hset _ _ _ _ hl,if_pos rfl]
theorem dec_u8(b:UInt8):decide ((b.toNat:Int)=1)=decide (b=1):=by
 by_cases h:b=1
 ·subst h;rfl
 ·rw[decide_eq_false h,decide_eq_false]
  intro q
  exact h (UInt8.toNat_inj.1 (by show b.toNat=1;omega))
theorem bad_st{M:List Ob} (g0:hget M 0=zO) (g1:hget M 1=bO):load? cx M 55 (.ptr 1 0)=some (.p (.agg [.int .i64 0,.nils,.int .i64 2]))∧store? cx M 55 (.ptr 0 0) (.p (.agg [.int .i64 0,.nils,.int .i64 2]))=.ws undefA 0 bO∧hget (hset M 0 bO) 0=bO:=
 ⟨(load_whole a55 s55 g1 rfl).trans rfl,store_whole s55 g0 rfl rfl rfl,by rw[hget_hset _ _ _ _ (hget_cells_lt g0),if_pos rfl]⟩
section
variable {o:Orc} (ho:FreeT o)
include ho
set_option maxHeartbeats 4000000
theorem f13{s:List UInt8} {n k i a:Nat} {L:Int} {b:AV} {acc:List Itm} {y:Itm} {t:Tm} {h:List Ob} {Q:Post} (hl:s.length<100000) (hy:y.tree=false) (T:RT s n k i a t) (H:RH L b acc i y h) (ha:a<s.length)
  (hQ:∀ t' h',RT s n k i (if L=0 then a+1 else a) t'→RH L b acc i {y with tree:=(if L=0 then decide (s.getD a 0=1)else false)} h'→Q .n t' h' [] none) :
  xC cx o none (.seq (.reg sc21r13) (.cond (.tmp 65) (.seq (.reg sc21r14) (.reg sc21r15)) .skip)) Q t h [] none:=by
 obtain⟨t0,t2,t3,t4,t5,t6,t7,t8⟩:=T
 have l0:=con_l0 H.g2
 by_cases hL:L=0
 ·have e1:decide (L=0)=true:=decide_eq_true hL
  rw[if_pos hL,if_pos hL]at hQ
  have ix:=index_str (c:=cx) (ty:=9) (s:=s) (i:=(a:Int)) (j:=.i64) u9 (by omega) (by omega)
  rw[Int.toNat_natCast]at ix
  have s1:=it_s1 (b:=decide (s.getD a 0=1)) H.gi
  have w1:IntKind.wrap .i64 ((a:Int)+1)=((a+1:Nat):Int):=by rw[wrap64_id (by omega) (by omega)];omega
  simp only[sc21r0,sc21r1,sc21r2,sc21r3,sc21r4,sc21r5,sc21r6,sc21r7,sc21r8,sc21r9,sc21r10,sc21r11,sc21r12,sc21r13,sc21r14,sc21r15,sc21r16,sc21r17,sc21r18,sc21r19,sc21r20,sc21r21,sc21r22,sc21r23,sc21r24,sc21r25,sc21r26,sc21l27,sc21r28,sc21r29,sc21r30,sc21l31,sc21r32,sc21r33,sc21r34,sc21,↓rwS,↓rwX,rwZ,rwT,rwG,Nat.reduceEqDiff,Nat.reduceAdd,reduceCtorEq,Nat.reduceLT,t0,t4,t6,t8,fp44_0,l0,e1,ix,dec_u8,fp46_1,s1,w1]
  refine hQ _ _ ⟨?_,?_,?_,?_,?_,?_,?_,?_⟩ (H.hs H.ok)<;>simp only[Tm.get_set,Nat.reduceEqDiff,if_true,if_false,t0,t2,t3,t4,t5,t6,t7,t8]
 ·have e1:decide (L=0)=false:=decide_eq_false hL
  rw[if_neg hL,if_neg hL]at hQ
  simp only[sc21r0,sc21r1,sc21r2,sc21r3,sc21r4,sc21r5,sc21r6,sc21r7,sc21r8,sc21r9,sc21r10,sc21r11,sc21r12,sc21r13,sc21r14,sc21r15,sc21r16,sc21r17,sc21r18,sc21r19,sc21r20,sc21r21,sc21r22,sc21r23,sc21r24,sc21r25,sc21r26,sc21l27,sc21r28,sc21r29,sc21r30,sc21l31,sc21r32,sc21r33,sc21r34,sc21,↓rwS,↓rwX,rwZ,rwT,rwG,Nat.reduceEqDiff,Nat.reduceAdd,reduceCtorEq,Nat.reduceLT,t0,t4,t6,t8,fp44_0,l0,e1]
  refine hQ _ _ ⟨?_,?_,?_,?_,?_,?_,?_,?_⟩ ?_
  case refine_9=>rw[← hy];exact H
  all_goals simp only[Tm.get_set,Nat.reduceEqDiff,if_true,if_false,t0,t2,t3,t4,t5,t6,t7,t8]
theorem f16{s:List UInt8} {n k i a:Nat} {L:Int} {b:AV} {acc:List Itm} {y:Itm} {t:Tm} {h:List Ob} {Q:Post} (hl:s.length<100000) (T:RT s n k i a t) (H:RH L b acc i y h) (ha:a≤s.length) (hyc:y.count=0)
  (hB:rN L y.tree (s.drop a)=none→∀ t' h',t'.get 2=.ptr 0 0→hget h' 0=bO→Q .ret t' h' [] none)
  (hQ:∀ c a' t' h',rN L y.tree (s.drop a)=some (c,s.drop a')→a'≤s.length→a≤a'→RT s n k i a' t'→RH L b acc i {y with count:=c} h'→Q .n t' h' [] none) :
  xC cx o none (.seq (.reg sc21r16) (.cond (.tmp 79) (.seq (.seq (.reg sc21r17) (.cond (.tmp 84) (.seq (.reg sc21r18) .ret) .skip)) (.seq (.reg sc21r19) (.reg sc21r20))) .skip)) Q t h [] none:=by
 obtain⟨t0,t2,t3,t4,t5,t6,t7,t8⟩:=T
 have l0:=con_l0 H.g2
 have lt:=it_l1 H.gi
 obtain⟨w1,w2,w3⟩:=bad_st H.g0 H.g1
 have w4:IntKind.wrap .i64 ((a:Int)+4)=((a+4:Nat):Int):=by rw[wrap64_id (by omega) (by omega)];omega
 rw[rN_at ha]at hB hQ
 -- no count
 by_cases hc:L > 0∨y.tree=true
 case neg=>
  rw[if_neg hc]at hQ
  have e1:decide (0<L)=false:=decide_eq_false (by omega)
  have e2:y.tree=false:=by cases hh:y.tree with|true=>exact absurd (.inr hh) hc|false=>rfl
  simp only[sc21r0,sc21r1,sc21r2,sc21r3,sc21r4,sc21r5,sc21r6,sc21r7,sc21r8,sc21r9,sc21r10,sc21r11,sc21r12,sc21r13,sc21r14,sc21r15,sc21r16,sc21r17,sc21r18,sc21r19,sc21r20,sc21r21,sc21r22,sc21r23,sc21r24,sc21r25,sc21r26,sc21l27,sc21r28,sc21r29,sc21r30,sc21l31,sc21r32,sc21r33,sc21r34,sc21,↓rwS,↓rwX,rwZ,rwT,rwG,Nat.reduceEqDiff,Nat.reduceAdd,reduceCtorEq,Nat.reduceLT,t0,t4,t6,t8,fp44_0,l0,e1,fp46_1,lt,e2]
  refine hQ 0 a _ _ rfl ha (Nat.le_refl _) ⟨?_,?_,?_,?_,?_,?_,?_,?_⟩ ?_
  case refine_9=>rw[← hyc];exact H
  all_goals simp only[Tm.get_set,Nat.reduceEqDiff,if_true,if_false,t0,t2,t3,t4,t5,t6,t7,t8]
 rw[if_pos hc]at hB hQ
 by_cases h4:s.length<a+4
 ·rw[if_pos h4]at hB
  have e4:decide ((s.length:Int)<((a+4:Nat):Int))=true:=decide_eq_true (by omega)
  have hB:=hB rfl
  by_cases hL:0<L
  ·have e1:decide (0<L)=true:=decide_eq_true hL
   simp only[sc21r0,sc21r1,sc21r2,sc21r3,sc21r4,sc21r5,sc21r6,sc21r7,sc21r8,sc21r9,sc21r10,sc21r11,sc21r12,sc21r13,sc21r14,sc21r15,sc21r16,sc21r17,sc21r18,sc21r19,sc21r20,sc21r21,sc21r22,sc21r23,sc21r24,sc21r25,sc21r26,sc21l27,sc21r28,sc21r29,sc21r30,sc21l31,sc21r32,sc21r33,sc21r34,sc21,↓rwS,↓rwX,rwZ,rwT,rwG,Nat.reduceEqDiff,Nat.reduceAdd,reduceCtorEq,Nat.reduceLT,t0,t2,t3,t4,t6,t8,fp44_0,l0,e1,w4,e4,w1,w2]
   refine hB _ _ ?_ w3
   simp only[Tm.get_set,Nat.reduceEqDiff,if_true,if_false,t2]
  ·have e1:decide (0<L)=false:=decide_eq_false hL
   have e2:y.tree=true:=hc.resolve_left hL
   simp only[sc21r0,sc21r1,sc21r2,sc21r3,sc21r4,sc21r5,sc21r6,sc21r7,sc21r8,sc21r9,sc21r10,sc21r11,sc21r12,sc21r13,sc21r14,sc21r15,sc21r16,sc21r17,sc21r18,sc21r19,sc21r20,sc21r21,sc21r22,sc21r23,sc21r24,sc21r25,sc21r26,sc21l27,sc21r28,sc21r29,sc21r30,sc21l31,sc21r32,sc21r33,sc21r34,sc21,↓rwS,↓rwX,rwZ,rwT,rwG,Nat.reduceEqDiff,Nat.reduceAdd,reduceCtorEq,Nat.reduceLT,t0,t2,t3,t4,t6,t8,fp44_0,l0,e1,fp46_1,lt,e2,w4,e4,w1,w2]
   refine hB _ _ ?_ w3
   simp only[Tm.get_set,Nat.reduceEqDiff,if_true,if_false,t2]
 ·rw[if_neg h4]at hQ
  have e4:decide ((s.length:Int)<((a+4:Nat):Int))=false:=decide_eq_false (by omega)
  have hs:∀ hh,sliceW cx hh 9 (.p (.str s)) (some (.p (.int .i64 (a:Int)))) (some (.p (.int .i64 ((a+4:Nat):Int))))=.w (.p (.str ((s.drop a).take 4))):=fun hh=>by
   rw[slice_str' (a:=a) (b:=a+4) u9 (bnd_some (by omega) (by omega)) (bnd_some (by omega) (by omega)),List.drop_take,show a+4-a=4 by omega]
  have n4:=fun(h:List Ob) dst t d r k Q=>c61 ho (s:=(s.drop a).take 4) (by simp;omega) (h:=h) (dst:=dst) (t:=t) (d:=d) (r:=r) (k:=k) (Q:=Q)
  have s2:=it_s2 (n:=((nm ((s.drop a).take 4) 0:Nat):Int)) H.gi
  have hQ:=fun t' h'=>hQ _ _ t' h' rfl (by omega) (by omega)
  by_cases hL:0<L
  ·have e1:decide (0<L)=true:=decide_eq_true hL
   simp only[sc21r0,sc21r1,sc21r2,sc21r3,sc21r4,sc21r5,sc21r6,sc21r7,sc21r8,sc21r9,sc21r10,sc21r11,sc21r12,sc21r13,sc21r14,sc21r15,sc21r16,sc21r17,sc21r18,sc21r19,sc21r20,sc21r21,sc21r22,sc21r23,sc21r24,sc21r25,sc21r26,sc21l27,sc21r28,sc21r29,sc21r30,sc21l31,sc21r32,sc21r33,sc21r34,sc21,↓rwS,↓rwX,rwZ,rwT,rwG,Nat.reduceEqDiff,Nat.reduceAdd,reduceCtorEq,Nat.reduceLT,t0,t2,t3,t4,t6,t8,fp44_0,l0,e1,w4,e4,hs,n4,fp46_2,s2]
   refine hQ _ _ ⟨?_,?_,?_,?_,?_,?_,?_,?_⟩ (H.hs H.ok)<;>simp only[Tm.get_set,Nat.reduceEqDiff,if_true,if_false,t0,t2,t3,t4,t5,t6,t7,t8]
  ·have e1:decide (0<L)=false:=decide_eq_false hL
   have e2:y.tree=true:=hc.resolve_left hL
   simp only[sc21r0,sc21r1,sc21r2,sc21r3,sc21r4,sc21r5,sc21r6,sc21r7,sc21r8,sc21r9,sc21r10,sc21r11,sc21r12,sc21r13,sc21r14,sc21r15,sc21r16,sc21r17,sc21r18,sc21r19,sc21r20,sc21r21,sc21r22,sc21r23,sc21r24,sc21r25,sc21r26,sc21l27,sc21r28,sc21r29,sc21r30,sc21l31,sc21r32,sc21r33,sc21r34,sc21,↓rwS,↓rwX,rwZ,rwT,rwG,Nat.reduceEqDiff,Nat.reduceAdd,reduceCtorEq,Nat.reduceLT,t0,t2,t3,t4,t6,t8,fp44_0,l0,e1,fp46_1,lt,e2,w4,e4,hs,n4,fp46_2,s2]
   refine hQ _ _ ⟨?_,?_,?_,?_,?_,?_,?_,?_⟩ (by rw[← e2] ;exact H.hs H.ok)<;>simp only[Tm.get_set,Nat.reduceEqDiff,if_true,if_false,t0,t2,t3,t4,t5,t6,t7,t8]
end
structure RU (s:List UInt8) (n k a:Nat) (t:Tm):Prop where
 t0:t.get 0=.p (.str s)
 t2:t.get 2=.ptr 0 0
 t3:t.get 3=.ptr 1 0
 t4:t.get 4=.ptr 2 0
 t5:t.get 5=.p (.int .i64 (n:Int))
 t6:t.get 6=.p (.int .i64 (a:Int))
 t7:t.get 7=.p (.int .i64 (k:Int))
structure LH (L:Int) (b:AV) (acc:List Itm) (h:List Ob):Prop where
 g0:hget h 0=zO
 g1:hget h 1=bO
 g2:hget h 2=.cells 44 [.p (.int .i64 L),b]
 own:Own h 46 19 b (acc.map Itm.V)
 ids:∀ j∈ids1 b,3≤j
theorem Itm.ok_set{y:Itm} {u:List UInt8} {j:Nat} (hy:y.ok) (hu:u.length=16) (hj:j≤16):({y with sum:=u.take j++y.sum.drop j}:Itm).ok:=by
 have hy':y.sum.length=16:=hy
 show(u.take j++y.sum.drop j).length=16
 simp [hu,hy'];omega
theorem set_next{u v:List UInt8} {j:Nat} (hu:u.length=16) (hv:v.length=16) (hj:j<16):(u.take j++v.drop j).set j (u.getD j 0)=u.take (j+1)++v.drop (j+1):=by
 apply List.ext_getElem
 ·simp [hu,hv];omega
 ·intro m h1 h2
  simp [hu,hv]at h1 h2
  rw[List.getElem_set]
  by_cases e:j=m
  ·subst e
   rw[if_pos rfl,List.getElem_append_left (by simp [hu];omega)]
   simp [List.getD,hu,hj]
  ·rw[if_neg e]
   by_cases q:m<j
   ·rw[List.getElem_append_left (by simp [hu];omega),List.getElem_append_left (by simp [hu];omega)]
    simp
   ·rw[List.getElem_append_right (by simp [hu];omega),List.getElem_append_right (by simp [hu];omega)]
    simp [hu]
    congr 1
    omega
section
variable {o:Orc} (ho:FreeT o)
include ho
set_option maxHeartbeats 4000000
theorem f23{s:List UInt8} {n k i a:Nat} {L:Int} {b:AV} {acc:List Itm} {y:Itm} {t:Tm} {h:List Ob} {Q:Post} (hl:s.length<100000) (T:RT s n k i a t) (H:RH L b acc i y h) (ha:a+16≤s.length)
  (hQ:∀ t' h',RT s n k i a t'→RH L b acc i {y with sum:=(s.drop a).take 16} h'→Q .n t' h' [] none) :
  xC cx o none (.seq (.reg sc21r23) (.block 2 (.loop sc21l27))) Q t h [] none:=by
 have hul:((s.drop a).take 16).length=16:=by simp;omega
 have hug:∀ j,j<16→((s.drop a).take 16).getD j 0=s.getD (a+j) 0:=fun j hj=>by simp [List.getD,hj,List.getElem?_take]
 generalize hu:(s.drop a).take 16=u at *
 have hyl:y.sum.length=16:=H.ok
 obtain⟨t0,t2,t3,t4,t5,t6,t7,t8⟩:=T
 simp only[sc21r0,sc21r1,sc21r2,sc21r3,sc21r4,sc21r5,sc21r6,sc21r7,sc21r8,sc21r9,sc21r10,sc21r11,sc21r12,sc21r13,sc21r14,sc21r15,sc21r16,sc21r17,sc21r18,sc21r19,sc21r20,sc21r21,sc21r22,sc21r23,sc21r24,sc21r25,sc21r26,sc21r28,sc21r29,sc21r30,sc21r32,sc21r33,sc21r34,sc21,↓rwS,↓rwX,rwZ,rwT,rwG,Nat.reduceEqDiff,Nat.reduceAdd,reduceCtorEq,Nat.reduceLT]
 refine xC_loop (fun m t h' d r=>∃ j:Nat,m+j=16∧d=[]∧r=none∧RT s n k i a t∧t.get 9=.p (.int .i64 (j:Int))∧RH L b acc i {y with sum:=u.take j++y.sum.drop j} h') 16 ?_ ?_
 ·refine⟨0,rfl,rfl,rfl,⟨?_,?_,?_,?_,?_,?_,?_,?_⟩,?_,H⟩<;>simp only[Tm.get_set,Nat.reduceEqDiff,if_true,if_false,t0,t2,t3,t4,t5,t6,t7,t8]<;>rfl
 ·clear t0 t2 t3 t4 t5 t6 t7 t8 H
  rintro m t h' d r ⟨j,hmj,rfl,rfl,⟨t0,t2,t3,t4,t5,t6,t7,t8⟩,t9,H⟩
  by_cases hj:j<16
  ·have e1:decide ((j:Int)<16)=true:=decide_eq_true (by omega)
   have w1:IntKind.wrap .i64 ((a:Int)+(j:Int))=((a+j:Nat):Int):=by rw[wrap64_id (by omega) (by omega)];omega
   have w2:IntKind.wrap .i64 ((j:Int)+1)=((j+1:Nat):Int):=by rw[wrap64_id (by omega) (by omega)];omega
   have ix:=index_str (c:=cx) (ty:=9) (s:=s) (i:=((a+j:Nat):Int)) (j:=.i64) u9 (by omega) (by omega)
   rw[Int.toNat_natCast,← hug j hj]at ix
   have ia:indexAddr? cx 27 (.ptr i 3) (.p (.int .i64 (j:Int)))=some (.ptr i (3+j)):=by
    have:=idx_ptr (c:=cx) (ty:=27) (e:=5) (n:=16) (i:=i) (o:=3) (ix:=(j:Int)) (j:=.i64) u27 s5 (by omega) (by omega)
    rw[this,Int.toNat_natCast]
   have st:=it_ss (v:=u.getD j 0) H.gi H.ok hj
   simp only[sc21r0,sc21r1,sc21r2,sc21r3,sc21r4,sc21r5,sc21r6,sc21r7,sc21r8,sc21r9,sc21r10,sc21r11,sc21r12,sc21r13,sc21r14,sc21r15,sc21r16,sc21r17,sc21r18,sc21r19,sc21r20,sc21r21,sc21r22,sc21r23,sc21r24,sc21r25,sc21r26,sc21l27,sc21r28,sc21r29,sc21r30,sc21l31,sc21r32,sc21r33,sc21r34,sc21,↓rwS,↓rwX,rwZ,rwT,rwG,Nat.reduceEqDiff,Nat.reduceAdd,reduceCtorEq,Nat.reduceLT,t0,t6,t8,t9,e1,w1,w2,ix,fp46_3,ia,st]
   refine⟨m-1,by omega,j+1,by omega,trivial,trivial,⟨?_,?_,?_,?_,?_,?_,?_,?_⟩,?_,?_⟩
   case refine_10=>
    have h1:=H.hs (Itm.ok_set (j:=j+1) H.ok hul (by omega))
    rw[show({y with sum:=(u.take j++y.sum.drop j).set j (u.getD j 0)}:Itm)={y with sum:=u.take (j+1)++y.sum.drop (j+1)} by rw[set_next hul hyl hj]]
    exact H.hs (Itm.ok_set (y:=y) hyl hul (by omega))
   all_goals simp only[Tm.get_set,Nat.reduceEqDiff,if_true,if_false,t0,t2,t3,t4,t5,t6,t7,t8]
  ·obtain rfl:j=16:=by omega
   have e1:decide (((16:Nat):Int)<16)=false:=rfl
   simp only[sc21r0,sc21r1,sc21r2,sc21r3,sc21r4,sc21r5,sc21r6,sc21r7,sc21r8,sc21r9,sc21r10,sc21r11,sc21r12,sc21r13,sc21r14,sc21r15,sc21r16,sc21r17,sc21r18,sc21r19,sc21r20,sc21r21,sc21r22,sc21r23,sc21r24,sc21r25,sc21r26,sc21l27,sc21r28,sc21r29,sc21r30,sc21l31,sc21r32,sc21r33,sc21r34,sc21,↓rwS,↓rwX,rwZ,rwT,rwG,Nat.reduceEqDiff,Nat.reduceAdd,reduceCtorEq,Nat.reduceLT,t9,e1,blockP_exit]
   refine hQ _ _ ⟨?_,?_,?_,?_,?_,?_,?_,?_⟩ ?_
   case refine_9=>
    rw[List.take_of_length_le (by omega),List.drop_of_length_le (by omega),List.append_nil]at H
    exact H
   all_goals simp only[Tm.get_set,Nat.reduceEqDiff,if_true,if_false,t0,t2,t3,t4,t5,t6,t7,t8]
theorem f28{s:List UInt8} {n k i a:Nat} {L:Int} {b:AV} {acc:List Itm} {y:Itm} {t:Tm} {h:List Ob} {Q:Post} (hl:s.length<100000) (T:RT s n k i a t) (H:RH L b acc i y h) (ha:a+16≤s.length) (hac:acc.length<1000000)
  (hQ:∀ b' t' h',RU s n k (a+16) t'→LH L b' (acc++[y]) h'→Q .n t' h' [] none) :
  xC cx o none (.seq (.reg sc21r28) (.reg sc21r29)) Q t h [] none:=by
 obtain⟨t0,t2,t3,t4,t5,t6,t7,t8⟩:=T
 have l1:=con_l1 H.g2
 have ld:=it_ld H.gi H.ok
 have w1:IntKind.wrap .i64 ((a:Int)+16)=((a+16:Nat):Int):=by rw[wrap64_id (by omega) (by omega)];omega
 have lh:2<h.length:=hget_cells_lt H.g2
 obtain⟨b1,h1,a1,a2,a3,a4,a5⟩:=items_app (o:=o) (x:=y) H.own hac
 have z0:hget h1 0=zO:=by rw[a3 0 (by omega) (fun q=>by have:=(H.ids _ q).1;omega)];exact H.g0
 have z1:hget h1 1=bO:=by rw[a3 1 (by omega) (fun q=>by have:=(H.ids _ q).1;omega)];exact H.g1
 have z2:hget h1 2=.cells 44 [.p (.int .i64 L),b]:=by rw[a3 2 (by omega) (fun q=>by have:=(H.ids _ q).1;omega)];exact H.g2
 obtain⟨cv1,hcv1,hcs1⟩:=own_co a1
 have ob:b1.cells?=some [b1]:=hcv1.one_cell hcs1
 have st:=store_cell (c:=cx) (off:=1) s42 z2 ob (show 1<2 by decide)
 have lh1:2<h1.length:=by omega
 have ids1:∀ j∈ids1 b1,3≤j:=fun j hj=>(a4 j hj).elim (fun q=>(H.ids j q).1) (fun q=>by omega)
 simp only[sc21r0,sc21r1,sc21r2,sc21r3,sc21r4,sc21r5,sc21r6,sc21r7,sc21r8,sc21r9,sc21r10,sc21r11,sc21r12,sc21r13,sc21r14,sc21r15,sc21r16,sc21r17,sc21r18,sc21r19,sc21r20,sc21r21,sc21r22,sc21r23,sc21r24,sc21r25,sc21r26,sc21l27,sc21r28,sc21r29,sc21r30,sc21l31,sc21r32,sc21r33,sc21r34,sc21,↓rwS,↓rwX,rwZ,rwT,rwG,Nat.reduceEqDiff,Nat.reduceAdd,reduceCtorEq,Nat.reduceLT,t4,t6,t8,fp44_1,l1,ld,w1,bs46 H.ok,appW_sl u42 u42,a5,st]
 refine hQ b1 _ _ ⟨?_,?_,?_,?_,?_,?_,?_⟩ ⟨?_,?_,?_,?_,ids1⟩
 case refine_8=>rw[hget_hset _ _ _ _ lh1,if_neg (by decide)];exact z0
 case refine_9=>rw[hget_hset _ _ _ _ lh1,if_neg (by decide)];exact z1
 case refine_10=>rw[hget_hset _ _ _ _ lh1,if_pos rfl];rfl
 case refine_11=>exact own_hs a1 (fun j hj=>by have:=ids1 j hj;omega) lh1
 all_goals simp only[Tm.get_set,Nat.reduceEqDiff,if_true,if_false,t0,t2,t3,t4,t5,t6,t7]
theorem f21{s:List UInt8} {n k i a:Nat} {L:Int} {b:AV} {acc:List Itm} {y:Itm} {t:Tm} {h:List Ob} {Q:Post} (hl:s.length<100000) (T:RT s n k i a t) (H:RH L b acc i y h) (ha:a≤s.length) (hac:acc.length<1000000)
  (hB:s.length<a+16→∀ t' h',t'.get 2=.ptr 0 0→hget h' 0=bO→Q .ret t' h' [] none)
  (hQ:¬s.length<a+16→∀ b' t' h',RU s n k (a+16) t'→LH L b' (acc++[{y with sum:=(s.drop a).take 16}]) h'→Q .n t' h' [] none) :
  xC cx o none (.seq (.seq (.reg sc21r21) (.cond (.tmp 99) (.seq (.reg sc21r22) .ret) .skip)) (.seq (.seq (.reg sc21r23) (.block 2 (.loop sc21l27))) (.seq (.reg sc21r28) (.reg sc21r29)))) Q t h [] none:=by
 have T0:=T
 obtain⟨t0,t2,t3,t4,t5,t6,t7,t8⟩:=T
 have w1:IntKind.wrap .i64 ((a:Int)+16)=((a+16:Nat):Int):=by rw[wrap64_id (by omega) (by omega)];omega
 rw[xC_seq]
 by_cases h16:s.length<a+16
 ·have e1:decide ((s.length:Int)<((a+16:Nat):Int))=true:=decide_eq_true (by omega)
  obtain⟨w2,w3,w4⟩:=bad_st H.g0 H.g1
  simp only[sc21r21,sc21r22,↓rwS,↓rwX,rwZ,rwT,rwG,Nat.reduceEqDiff,Nat.reduceAdd,reduceCtorEq,Nat.reduceLT,t0,t2,t3,t6,w1,e1,w2,w3]
  refine hB h16 _ _ ?_ w4
  simp only[Tm.get_set,Nat.reduceEqDiff,if_true,if_false,t2]
 ·have e1:decide ((s.length:Int)<((a+16:Nat):Int))=false:=decide_eq_false (by omega)
  have G:∀ t',RT s n k i a t'→xC cx o none (.seq (.seq (.reg sc21r23) (.block 2 (.loop sc21l27))) (.seq (.reg sc21r28) (.reg sc21r29))) Q t' h [] none:=fun t' T'=>by
   rw[xC_seq]
   refine f23 ho hl T' H (by omega) fun t1 h1 T1 H1=>?_
   exact f28 ho hl T1 H1 (by omega) hac (hQ h16)
  generalize SC.seq (.seq (.reg sc21r23) (.block 2 (.loop sc21l27))) (.seq (.reg sc21r28) (.reg sc21r29))=R at *
  simp only[sc21r21,↓rwS,↓rwX,rwZ,rwT,rwG,Nat.reduceEqDiff,Nat.reduceAdd,reduceCtorEq,Nat.reduceLT,t0,t6,w1,e1]
  refine G _ ⟨?_,?_,?_,?_,?_,?_,?_,?_⟩
  all_goals simp only[Tm.get_set,Nat.reduceEqDiff,if_true,if_false,t0,t2,t3,t4,t5,t6,t7,t8]
end
theorem b55_0{h:List Ob} {b:AV} {xs:List PV} {L:Int} (H:Own h 46 19 b xs):build? cx 55 [(0,mkAgg [.p (.int .i64 L),b])]=some (mkAgg [.p (.int .i64 L),b,.p (.int .i64 0)]):=by
 cases H<;>kernel_rfl
theorem cells3{h:List Ob} {b:AV} {xs:List PV} {L:Int} (H:Own h 46 19 b xs):(mkAgg [.p (.int .i64 L),b,.p (.int .i64 0)]).cells?=some [.p (.int .i64 L),b,.p (.int .i64 0)]:=by
 cases H<;>rfl
theorem rL_snoc{L:Int} {x:Itm} {s s1:List UInt8} {m:Nat} (h:rI L s=some (x,s1)) {acc:List Itm}:(match rL L (m+1) s with|some (xs,r)=>some (acc++xs,r)|none=>none)=(match rL L m s1 with|some (xs,r)=>some ((acc++[x])++xs,r)|none=>none):=by
 conv=>lhs;unfold rL
 rw[h]
 simp only
 cases rL L m s1 with
 |none=>rfl
 |some w=>obtain⟨xs,r⟩:=w;simp
def RIi(s:List UInt8) (L:Int) (n:Nat) (m:Nat) (t:Tm) (h:List Ob) (d:List AD) (r:Option RM):Prop:=∃ (k a:Nat) (b:AV) (acc:List Itm),m+k=n∧acc.length=k∧a≤s.length∧16*k≤a∧d=[]∧r=none∧RU s n k a t∧LH L b acc h∧(∀ x∈acc,x.ok∧x.key.length<256) ∧
 (rL L n (s.drop 3)=match rL L m (s.drop a)with|some (xs,r)=>some (acc++xs,r)|none=>none)
section
variable {o:Orc} (ho:FreeT o)
include ho
set_option maxHeartbeats 4000000
theorem f9{s:List UInt8} {L:Int} {n m:Nat} {t:Tm} {h:List Ob} {d:List AD} {r:Option RM} {Q:Post} (hl:s.length<100000) (hn:n<65536) (hI:RIi s L n m t h d r)
  (hB:rL L n (s.drop 3)=none→∀ t' h',t'.get 2=.ptr 0 0→hget h' 0=bO→Q .ret t' h' [] none)
  (hX:∀ t',m=0→RIi s L n 0 t' h d r→Q (.exit 0) t' h d r)
  (hQ:∀ m' t' h',m'<m→RIi s L n m' t' h' [] none→Q .n t' h' [] none):xC cx o none sc21l31 Q t h d r:=by
 obtain⟨k,a,b,acc,hmk,hak,ha,hka,rfl,rfl,⟨t0,t2,t3,t4,t5,t6,t7⟩,⟨g0,g1,g2,hO,hids⟩,hacc,hrL⟩:=hI
 obtain⟨w1,w2,w3⟩:=bad_st g0 g1
 have lh:2<h.length:=hget_cells_lt g2
 by_cases hm:m=0
 ·subst hm
  have e1:decide ((k:Int)<(n:Int))=false:=decide_eq_false (by omega)
  simp only[sc21l31,sc21r8,↓rwS,↓rwX,rwZ,rwT,rwG,Nat.reduceEqDiff,Nat.reduceAdd,reduceCtorEq,Nat.reduceLT,t5,t7,e1]
  refine hX _ rfl ⟨k,a,b,acc,hmk,hak,ha,hka,rfl,rfl,⟨?_,?_,?_,?_,?_,?_,?_⟩,⟨g0,g1,g2,hO,hids⟩,hacc,hrL⟩
  all_goals simp only[Tm.get_set,Nat.reduceEqDiff,if_true,if_false,t0,t2,t3,t4,t5,t6,t7]
 obtain⟨m,rfl⟩:∃ i,m=i+1:=⟨m-1,by omega⟩
 have e1:decide ((k:Int)<(n:Int))=true:=decide_eq_true (by omega)
 have hno:rI L (s.drop a)=none→rL L n (s.drop 3)=none:=fun q=>by
  rw[hrL];unfold rL;rw[q]
 by_cases h1:s.length≤a
 ·have e2:decide ((s.length:Int)≤(a:Int))=true:=decide_eq_true (by omega)
  simp only[sc21l31,sc21r8,sc21r9,sc21r10,↓rwS,↓rwX,rwZ,rwT,rwG,Nat.reduceEqDiff,Nat.reduceAdd,reduceCtorEq,Nat.reduceLT,t0,t2,t3,t5,t6,t7,e1,e2,w1,w2]
  refine hB (hno (rI_no h1)) _ _ ?_ w3
  simp only[Tm.get_set,Nat.reduceEqDiff,if_true,if_false,t2]
 have h8:(s.getD a 0).toNat<256:=UInt8.toNat_lt _
 have e2:decide ((s.length:Int)≤(a:Int))=false:=decide_eq_false (by omega)
 have ix:=index_str (c:=cx) (ty:=9) (s:=s) (i:=(a:Int)) (j:=.i64) u9 (by omega) (by omega)
 rw[Int.toNat_natCast]at ix
 have hI:=rI_at (L:=L) (s:=s) (a:=a) (by omega) rfl
 generalize hkk:(s.getD a 0).toNat=kk at *
 have hcv:∀ hh:List Ob,conv3 cx hh 5 3 (.p (.int .u8 (kk:Int)))=.w (.p (.int .i64 (kk:Int))):=fun hh=>by
  rw[conv_int u5 u3,wrap64_id (by omega) (by omega)]
 have wa:IntKind.wrap .i64 ((a:Int)+1)=((a+1:Nat):Int):=by rw[wrap64_id (by omega) (by omega)];omega
 have wb:IntKind.wrap .i64 (((a+1:Nat):Int)+(kk:Int))=((a+1+kk:Nat):Int):=by rw[wrap64_id (by omega) (by omega)];omega
 by_cases h2:s.length≤a+1+kk
 ·have e3:decide ((s.length:Int)≤((a+1+kk:Nat):Int))=true:=decide_eq_true (by omega)
  rw[if_pos h2]at hI
  simp only[sc21l31,sc21r8,sc21r9,sc21r10,↓rwS,↓rwX,rwZ,rwT,rwG,Nat.reduceEqDiff,Nat.reduceAdd,reduceCtorEq,Nat.reduceLT,t0,t2,t3,t5,t6,t7,e1,e2,ix,hcv,wa,wb,e3,w1,w2]
  refine hB (hno hI) _ _ ?_ w3
  simp only[Tm.get_set,Nat.reduceEqDiff,if_true,if_false,t2]
 have e3:decide ((s.length:Int)≤((a+1+kk:Nat):Int))=false:=decide_eq_false (by omega)
 rw[if_neg h2,rF_at (by omega)]at hI
 have hs:∀ hh,sliceW cx hh 9 (.p (.str s)) (some (.p (.int .i64 ((a+1:Nat):Int)))) (some (.p (.int .i64 ((a+1+kk:Nat):Int))))=.w (.p (.str ((s.drop (a+1)).take kk))):=fun hh=>by
  rw[slice_str' (a:=a+1) (b:=a+1+kk) u9 (bnd_some (by omega) (by omega)) (bnd_some (by omega) (by omega)),List.drop_take,show a+1+kk-(a+1)=kk by omega]
 have hkl:((s.drop (a+1)).take kk).length<256:=by simp;omega
 generalize hky:(s.drop (a+1)).take kk=key at *
 have hnew:hget (h++[.cells 46 (Itm.z.V.cells.map .p)]) h.length=.cells 46 (Itm.z.V.cells.map .p):=hget_new _ _
 have st:=it_st (x:=Itm.k key) hnew rfl zc_len
 -- what follows the item's key
 have G:∀ (t':Tm) (Q':Post),RT s n k h.length (a+1+kk) t'→(∀ t1 h1,t1.get 2=.ptr 0 0→hget h1 0=bO→rL L n (s.drop 3)=none→Q' .ret t1 h1 [] none) →
   (∀ b1 a1 x t1 h1,rI L (s.drop a)=some (x,s.drop a1)→a1≤s.length→a+16≤a1→x.ok→x.key=key→RU s n k a1 t1→LH L b1 (acc++[x]) h1→Q' .n t1 h1 [] none) →
   xC cx o none (.seq (.seq (.reg sc21r13) (.cond (.tmp 65) (.seq (.reg sc21r14) (.reg sc21r15)) .skip)) (.seq (.seq (.reg sc21r16) (.cond (.tmp 79) (.seq (.seq (.reg sc21r17) (.cond (.tmp 84) (.seq (.reg sc21r18) .ret) .skip)) (.seq (.reg sc21r19) (.reg sc21r20))) .skip)) (.seq (.seq (.reg sc21r21) (.cond (.tmp 99) (.seq (.reg sc21r22) .ret) .skip)) (.seq (.seq (.reg sc21r23) (.block 2 (.loop sc21l27))) (.seq (.reg sc21r28) (.reg sc21r29)))))) Q' t' (hset (h++[.cells 46 (Itm.z.V.cells.map .p)]) h.length (Itm.k key).c) [] none:=by
  intro t' Q' T' hB' hQ'
  have lN:h.length<(h++[Ob.cells 46 (Itm.z.V.cells.map .p)]).length:=by simp
  have H0:RH L b acc h.length (Itm.k key) (hset (h++[.cells 46 (Itm.z.V.cells.map .p)]) h.length (Itm.k key).c):=by
   have hid2:∀ j∈ids1 b,3≤j∧j ≠ h.length:=fun j hj=>⟨hids j hj,by
    have hO':=hO
    generalize acc.map Itm.V=zs at hO'
    cases hO' with
    |nil=>simp [ids1]at hj
    |row hr=>
     have hj':=List.mem_singleton.1 hj
     have:=hget_flat_lt (h:=h) (by rw[hr];rfl)
     omega⟩
   refine⟨?_,?_,?_,?_,own_hs (hO.ext _) (fun j hj=>(hid2 j hj).2) lN,hid2,by omega,rfl⟩
   ·rw[hget_hset _ _ _ _ lN,if_neg (by omega),hget_appL _ _ (by omega)];exact g0
   ·rw[hget_hset _ _ _ _ lN,if_neg (by omega),hget_appL _ _ (by omega)];exact g1
   ·rw[hget_hset _ _ _ _ lN,if_neg (by omega),hget_appL _ _ (by omega)];exact g2
   ·rw[hget_hset _ _ _ _ lN,if_pos rfl]
  rw[xC_seq]
  refine f13 ho hl rfl T' H0 (by omega) fun t1 h1 T1 H1=>?_
  rw[seqP_n,xC_seq]
  have hrF:(if L=0 then(decide (s.getD (a+1+kk) 0=1),s.drop (a+1+kk+1))else(false,s.drop (a+1+kk)))=((if L=0 then decide (s.getD (a+1+kk) 0=1)else false),s.drop (if L=0 then a+1+kk+1 else a+1+kk)):=by
   by_cases q:L=0<;>simp [q]
  rw[hrF]at hI
  have ha2:(if L=0 then a+1+kk+1 else a+1+kk)≤s.length∧a≤(if L=0 then a+1+kk+1 else a+1+kk):=by split<;>omega
  generalize (if L=0 then a+1+kk+1 else a+1+kk)=a2 at *
  generalize (if L=0 then decide (s.getD (a+1+kk) 0=1)else false)=tr at *
  simp only at hI
  refine f16 ho hl T1 H1 ha2.1 rfl (fun hN t3 h3 q1 q2=>?_) (fun c a3 t3 h3 hN ha3 ha23 T3 H3=>?_)
  ·refine hB' _ _ q1 q2 (hno ?_)
   have hN':rN L tr (s.drop a2)=none:=hN
   rw[hI,hN']
  ·have hN':rN L tr (s.drop a2)=some (c,s.drop a3):=hN
   rw[hN']at hI
   simp only at hI
   rw[rM_at ha3]at hI
   rw[seqP_n]
   refine f21 ho hl T3 H3 ha3 (by omega) (fun h16 t4 h4 q1 q2=>?_) (fun h16 b4 t4 h4 T4 H4=>?_)
   ·rw[if_pos h16]at hI
    exact hB' _ _ q1 q2 (hno hI)
   ·rw[if_neg h16]at hI
    exact hQ' b4 (a3+16) _ _ _ hI (by omega) (by omega) (by show((s.drop a3).take 16).length=16;simp;omega) rfl T4 H4
 generalize hR:SC.seq (.seq (.reg sc21r13) (.cond (.tmp 65) (.seq (.reg sc21r14) (.reg sc21r15)) .skip)) (.seq (.seq (.reg sc21r16) (.cond (.tmp 79) (.seq (.seq (.reg sc21r17) (.cond (.tmp 84) (.seq (.reg sc21r18) .ret) .skip)) (.seq (.reg sc21r19) (.reg sc21r20))) .skip)) (.seq (.seq (.reg sc21r21) (.cond (.tmp 99) (.seq (.reg sc21r22) .ret) .skip)) (.seq (.seq (.reg sc21r23) (.block 2 (.loop sc21l27))) (.seq (.reg sc21r28) (.reg sc21r29)))))=R at *
 unfold sc21l31
 rw[hR]
 simp only[sc21r8,sc21r9,sc21r11,sc21r12,↓rwS,↓rwX,rwZ,rwT,rwG,Nat.reduceEqDiff,Nat.reduceAdd,reduceCtorEq,Nat.reduceLT,t0,t2,t3,t5,t6,t7,e1,e2,ix,hcv,wa,wb,e3,hs,b46,z46,st]
 refine G _ _ ⟨?_,?_,?_,?_,?_,?_,?_,?_⟩ (fun t1 h1 q1 q2 q3=>?_) (fun b1 a1 x t1 h1 q1 q2 q5 q3 q4 T1 H1=>?_)
 case refine_9=>
  simp only[↓rwS,↓rwX,rwZ,rwT,rwG,Nat.reduceEqDiff,Nat.reduceAdd,reduceCtorEq,Nat.reduceLT]
  exact hB q3 _ _ q1 q2
 case refine_10=>
  obtain⟨p0,p2,p3,p4,p5,p6,p7⟩:=T1
  have wk:IntKind.wrap .i64 ((k:Int)+1)=((k+1:Nat):Int):=by rw[wrap64_id (by omega) (by omega)];omega
  simp only[sc21r30,↓rwS,↓rwX,rwZ,rwT,rwG,Nat.reduceEqDiff,Nat.reduceAdd,reduceCtorEq,Nat.reduceLT,p7,wk]
  refine hQ m _ _ (by omega) ⟨k+1,a1,b1,acc++[x],by omega,by simp;omega,q2,by omega,rfl,rfl,⟨?_,?_,?_,?_,?_,?_,?_⟩,H1,?_,?_⟩
  case refine_8=>
   intro z hz
   rcases List.mem_append.1 hz with q|q
   ·exact hacc z q
   ·rw[List.mem_singleton.1 q];exact⟨q3,by rw[q4];exact hkl⟩
  case refine_9=>rw[hrL,rL_snoc q1]
  all_goals simp only[Tm.get_set,Nat.reduceEqDiff,if_true,if_false,p0,p2,p3,p4,p5,p6,p7]
 all_goals simp only[Tm.get_set,Nat.reduceEqDiff,if_true,if_false,t0,t2,t3,t4,t5,t6,t7]
end
open Classical in
theorem rC_at{s:List UInt8} (h:¬s.length<3):paR s=match rL (s.getD 0 0).toNat (nm ((s.drop 1).take 2) 0) (s.drop 3)with
  |none=>none
  |some (xs,_)=>if VP (s.getD 0 0).toNat xs∧cB (s.getD 0 0).toNat xs=s then some (((s.getD 0 0).toNat:Nat),xs)else none:=by
 rw[paR_r]
 unfold rC
 rw[if_neg h]
 have:s.headD 0=s.getD 0 0:=by cases s<;>rfl
 rw[this]
 cases rL (s.getD 0 0).toNat (nm ((s.drop 1).take 2) 0) (s.drop 3)<;>rfl
section
variable {o:Orc} (ho:FreeT o)
include ho
set_option maxHeartbeats 8000000 in
theorem parse21{s:List UInt8} (hl:s.length<100000):Ct cx o (.fn 21 [.p (.str s)]) [] (RaP s):=by
 refine ct21 (ho _ _ _ (by decide)) rfl ?_
 have zc55:(PV.agg [.int .i64 0,.nils,.int .i64 0]).cells.map AV.p=[.p (.int .i64 0),.p .nils,.p (.int .i64 0)]:=rfl
 have zc44:(PV.agg [.int .i64 0,.nils]).cells.map AV.p=[.p (.int .i64 0),.p .nils]:=rfl
 have zb55:(PV.agg [.int .i64 0,.nils,.int .i64 2]).cells.map AV.p=[.p (.int .i64 0),.p .nils,.p (.int .i64 2)]:=rfl
 have stb:=store_whole (c:=cx) (h:=[.cells 55 [.p (.int .i64 0),.p .nils,.p (.int .i64 0)],.cells 55 [.p (.int .i64 0),.p .nils,.p (.int .i64 0)]]) (i:=1) (ty:=55) (v:=.p (.agg [.int .i64 0,.nils,.int .i64 2])) s55 rfl rfl rfl rfl
 have H1:∀ {x y o':Ob},hset [x,y] 1 o'=[x,o']:=fun {x y o'}=>rfl
 -- the end with an error
 have bad:∀ {M:List Ob},hget M 0=.cells 55 [.p (.int .i64 0),.p .nils,.p (.int .i64 0)]→hget M 1=.cells 55 [.p (.int .i64 0),.p .nils,.p (.int .i64 2)] →
   load? cx M 55 (.ptr 1 0)=some (.p (.agg [.int .i64 0,.nils,.int .i64 2]))∧store? cx M 55 (.ptr 0 0) (.p (.agg [.int .i64 0,.nils,.int .i64 2]))=.ws undefA 0 (.cells 55 [.p (.int .i64 0),.p .nils,.p (.int .i64 2)]) ∧
   load? cx (hset M 0 (.cells 55 [.p (.int .i64 0),.p .nils,.p (.int .i64 2)])) 55 (.ptr 0 0)=some (.p (.agg [.int .i64 0,.nils,.int .i64 2])):=fun {M} g0 g1=>
  ⟨(load_whole a55 s55 g1 rfl).trans rfl,store_whole s55 g0 rfl rfl rfl,(load_whole a55 s55 (by rw[hget_hset _ _ _ _ (hget_cells_lt g0),if_pos rfl]) rfl).trans rfl⟩
 have badP:∀ M:List Ob,paR s=none→RaP s (.ret (.p (.agg [.int .i64 0,.nils,.int .i64 2]))) M:=fun M hp=>⟨_,0,[],2,.p .nils,.pv .nils,rfl,rfl,.p _,.nil,by rw[hp];exact⟨rfl,rfl,rfl⟩⟩
 by_cases c3:s.length<3
 ·have e1:decide ((s.length:Int)<3)=true:=decide_eq_true (by omega)
  obtain⟨w1,w2,w3⟩:=bad (M:=[.cells 55 [.p (.int .i64 0),.p .nils,.p (.int .i64 0)],.cells 55 [.p (.int .i64 0),.p .nils,.p (.int .i64 2)]]) rfl rfl
  simp only[sc21r0,sc21r1,sc21r2,sc21r3,sc21r4,sc21r5,sc21r6,sc21r7,sc21r8,sc21r9,sc21r10,sc21r11,sc21r12,sc21r13,sc21r14,sc21r15,sc21r16,sc21r17,sc21r18,sc21r19,sc21r20,sc21r21,sc21r22,sc21r23,sc21r24,sc21r25,sc21r26,sc21r28,sc21r29,sc21r30,sc21r32,sc21r33,sc21r34,sc21,↓rwS,↓rwX,rwZ,rwT,rwG,Nat.reduceEqDiff,Nat.reduceAdd,reduceCtorEq,Nat.reduceLT,z55,zc55,zb55,b55_1,List.nil_append,List.cons_append,List.length_cons,List.length_nil,stb,H1,e1,w1,w2,w3]
  exact badP _ (paR_short c3)
 ·have e1:decide ((s.length:Int)<3)=false:=decide_eq_false (by omega)
  have ix0:=index_str (c:=cx) (ty:=9) (s:=s) (i:=0) (j:=.i64) u9 (by decide) (by omega)
  have h8:(s.getD 0 0).toNat<256:=UInt8.toNat_lt _
  have hcv:∀ (hh:List Ob) (b:UInt8),conv3 cx hh 5 3 (.p (.int .u8 (b.toNat:Int)))=.w (.p (.int .i64 (b.toNat:Int))):=fun hh b=>by
   have:b.toNat<256:=UInt8.toNat_lt _
   rw[conv_int u5 u3,wrap64_id (by omega) (by omega)]
  have hs13:∀ hh,sliceW cx hh 9 (.p (.str s)) (some (.p (.int .i64 1))) (some (.p (.int .i64 3)))=.w (.p (.str ((s.drop 1).take 2))):=fun hh=>by
   rw[slice_str' (a:=1) (b:=3) u9 (bnd_some (by omega) (by omega)) (bnd_some (by omega) (by omega)),List.drop_take]
  have n13:=fun(h:List Ob) dst t d r k Q=>c61 ho (s:=(s.drop 1).take 2) (by simp;omega) (h:=h) (dst:=dst) (t:=t) (d:=d) (r:=r) (k:=k) (Q:=Q)
  have st4:∀ n:Int,store? cx [.cells 55 [.p (.int .i64 0),.p .nils,.p (.int .i64 0)],.cells 55 [.p (.int .i64 0),.p .nils,.p (.int .i64 2)],.cells 44 [.p (.int .i64 0),.p .nils]] 44 (.ptr 2 0) (.p (.agg [.int .i64 n,.nils]))=.ws undefA 2 (.cells 44 [.p (.int .i64 n),.p .nils]):=fun n=>store_whole s44 rfl rfl rfl rfl
  have H2:∀ {x y z o':Ob},hset [x,y,z] 2 o'=[x,y,o']:=fun {x y z o'}=>rfl
  have hn2:nm ((s.drop 1).take 2) 0<65536:=by
   have:=nm_lt ((s.drop 1).take 2) 0
   have h2:((s.drop 1).take 2).length=2:=by simp;omega
   rw[h2]at this
   omega
  have hP:=rC_at c3
  rw[Int.toNat_zero]at ix0
  generalize hL:(s.getD 0 0).toNat=L at *
  generalize hN:nm ((s.drop 1).take 2) 0=n at *
  have ix0':index? cx 9 (.p (.str s)) (.p (.int .i64 0))=some (.p (.int .u8 (L:Int))):=ix0
  have hcv':∀ hh,conv3 cx hh 5 3 (.p (.int .u8 (L:Int)))=.w (.p (.int .i64 (L:Int))):=fun hh=>by
   rw[conv_int u5 u3,wrap64_id (by omega) (by omega)]
  simp only[sc21r0,sc21r1,sc21r2,sc21r3,sc21r4,sc21r5,sc21r6,sc21r7,sc21r8,sc21r9,sc21r10,sc21r11,sc21r12,sc21r13,sc21r14,sc21r15,sc21r16,sc21r17,sc21r18,sc21r19,sc21r20,sc21r21,sc21r22,sc21r23,sc21r24,sc21r25,sc21r26,sc21r28,sc21r29,sc21r30,sc21r32,sc21r33,sc21r34,sc21,↓rwS,↓rwX,rwZ,rwT,rwG,Nat.reduceEqDiff,Nat.reduceAdd,reduceCtorEq,Nat.reduceLT,z55,zc55,zb55,b55_1,List.nil_append,List.cons_append,List.length_cons,List.length_nil,stb,H1,e1,ix0',hcv',b44_0,z44,zc44,st4,H2,hs13,n13]
  refine xC_loop (RIi s (L:Int) n) n ?_ ?_
  ·refine⟨0,3,.p .nils,[],rfl,rfl,by omega,by omega,rfl,rfl,⟨?_,?_,?_,?_,?_,?_,?_⟩,⟨rfl,rfl,rfl,.nil,by simp [ids1]⟩,by simp,?_⟩
   case refine_8=>cases rL (L:Int) n (s.drop 3)<;>rfl
   all_goals simp only[Tm.get_set,Nat.reduceEqDiff,if_true,if_false]
   all_goals rfl
  ·clear st4 H1 H2 stb n13
   intro m t h d r hI
   refine f9 ho hl hn2 hI (fun hR t' h' q1 q2=>?_) (fun t' hm hI'=>?_) (fun m' t' h' hm hI'=>⟨m',hm,hI'⟩)
   ·rw[hR]at hP
    simp only at hP
    have ld:load? cx h' 55 (.ptr 0 0)=some (.p (.agg [.int .i64 0,.nils,.int .i64 2])):=(load_whole a55 s55 q2 rfl).trans rfl
    simp only[↓rwS,↓rwX,rwZ,rwT,rwG,Nat.reduceEqDiff,Nat.reduceAdd,reduceCtorEq,Nat.reduceLT,q1,ld]
    exact badP _ hP
   ·obtain⟨k,a,b,acc,hmk,hak,ha,hka,rfl,rfl,⟨t0,t2,t3,t4,t5,t6,t7⟩,⟨g0,g1,g2,hO,hids⟩,hacc,hrL⟩:=hI'
    have hrL':rL (L:Int) n (s.drop 3)=some (acc,s.drop a):=by rw[hrL];simp [rL]
    rw[hrL']at hP
    simp only at hP
    obtain⟨cv,hcv1,hcs1⟩:=own_co hO
    obtain⟨w1,w2,w3⟩:=bad g0 g1
    have lw:load? cx h 44 (.ptr 2 0)=some (mkAgg [.p (.int .i64 (L:Int)),b]):=load_whole a44 s44 g2 rfl
    have c54:=cs54 ho (con_mk (l:=(L:Int)) hcv1 hcs1) (fun x hx=>(hacc x hx).1) (by omega) (fun x hx=>by have:=(hacc x hx).2;omega)
    cases hvb:vB (L:Int) acc with
    |false=>
     rw[hvb]at c54
     have hnv:¬VP (L:Int) acc:=fun q=>by rw[← vB_t q]at hvb;cases hvb
     rw[if_neg (fun q=>hnv q.1)]at hP
     simp only[sc21r0,sc21r1,sc21r2,sc21r3,sc21r4,sc21r5,sc21r6,sc21r7,sc21r8,sc21r9,sc21r10,sc21r11,sc21r12,sc21r13,sc21r14,sc21r15,sc21r16,sc21r17,sc21r18,sc21r19,sc21r20,sc21r21,sc21r22,sc21r23,sc21r24,sc21r25,sc21r26,sc21r28,sc21r29,sc21r30,sc21r32,sc21r33,sc21r34,sc21,↓rwS,↓rwX,rwZ,rwT,rwG,Nat.reduceEqDiff,Nat.reduceAdd,reduceCtorEq,Nat.reduceLT,t0,t2,t3,t4,lw,callW_ret ext54 c54,w1,w2,w3]
     exact badP _ hP
    |true=>
     rw[hvb]at c54
     have hvp:=vb_vp ho hvb
     have c55:=cs55 ho (con_mk (l:=(L:Int)) hcv1 hcs1) (fun x hx=>(hacc x hx).1) (by omega) (fun x hx=>by have:=(hacc x hx).2;omega) hvp
     by_cases hcb:cB (L:Int) acc=s
     ·rw[if_pos ⟨hvp,hcb⟩]at hP
      have e2:decide (cB (L:Int) acc=s)=true:=decide_eq_true hcb
      have lv:=hget_cells_lt g0
      have stw:store? cx h 55 (.ptr 0 0) (mkAgg [.p (.int .i64 (L:Int)),b,.p (.int .i64 0)])=.ws undefA 0 (.cells 55 [.p (.int .i64 (L:Int)),b,.p (.int .i64 0)]):=store_whole s55 g0 (cells3 hO) rfl rfl
      have lde:load? cx (hset h 0 (.cells 55 [.p (.int .i64 (L:Int)),b,.p (.int .i64 0)])) 55 (.ptr 0 0)=some (mkAgg [.p (.int .i64 (L:Int)),b,.p (.int .i64 0)]):=load_whole a55 s55 (by rw[hget_hset _ _ _ _ lv,if_pos rfl]) rfl
      simp only[sc21r0,sc21r1,sc21r2,sc21r3,sc21r4,sc21r5,sc21r6,sc21r7,sc21r8,sc21r9,sc21r10,sc21r11,sc21r12,sc21r13,sc21r14,sc21r15,sc21r16,sc21r17,sc21r18,sc21r19,sc21r20,sc21r21,sc21r22,sc21r23,sc21r24,sc21r25,sc21r26,sc21r28,sc21r29,sc21r30,sc21r32,sc21r33,sc21r34,sc21,↓rwS,↓rwX,rwZ,rwT,rwG,Nat.reduceEqDiff,Nat.reduceAdd,reduceCtorEq,Nat.reduceLT,t0,t2,t3,t4,lw,callW_ret ext54 c54,callW_ret ext55 c55,e2,b55_0 hO,stw,lde]
      refine⟨_,(L:Int),acc,0,b,cv,rfl,cells3 hO,hcv1.hset (by rw[g0];rfl),hcs1,?_⟩
      rw[hP]
      exact⟨rfl,rfl,rfl⟩
     ·rw[if_neg (fun q=>hcb q.2)]at hP
      have e2:decide (cB (L:Int) acc=s)=false:=decide_eq_false hcb
      simp only[sc21r0,sc21r1,sc21r2,sc21r3,sc21r4,sc21r5,sc21r6,sc21r7,sc21r8,sc21r9,sc21r10,sc21r11,sc21r12,sc21r13,sc21r14,sc21r15,sc21r16,sc21r17,sc21r18,sc21r19,sc21r20,sc21r21,sc21r22,sc21r23,sc21r24,sc21r25,sc21r26,sc21r28,sc21r29,sc21r30,sc21r32,sc21r33,sc21r34,sc21,↓rwS,↓rwX,rwZ,rwT,rwG,Nat.reduceEqDiff,Nat.reduceAdd,reduceCtorEq,Nat.reduceLT,t0,t2,t3,t4,lw,callW_ret ext54 c54,callW_ret ext55 c55,e2,w1,w2,w3]
      exact badP _ hP
end
end Go.Proofs

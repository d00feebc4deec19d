/- What is proved: the space of the examples' update and that it is sound, as results of calls. Conditions: none. -/
import Derived.Test.YtepjcfcfpjhpgaaGreatDoorPE07
import Derived.Test.YtepjcfcfpjhpgaaGreatDoorPC07
import Derived.Test.YtepjcfcfpjhpgaaGreatDoorPE08
set_option linter.all false
namespace Go.Proofs
open Go Go.Ai
set_option maxRecDepth 100000
theorem o0_free:FreeT o0:=fun f args h _=>rfl
theorem ct_at{f:FuncId} {args h P} (H:Ct cx o0 (.fn f args) h P):∃ e h',CallAt cx Tryz.prog (.fn f args) h none e h' none∧P e h':=by
 obtain⟨e,h',⟨k0,hk⟩,hP⟩:=H
 exact⟨e,h',callN_ok cx_ok o0_ok k0 _ _ _ _ _ _ (hk k0 (Nat.le_refl _)),hP⟩
theorem repK_eq:∀ n:Nat,repK n=List.replicate n zeroPage:=by
 intro n
 induction n with
 |zero=>rfl
 |succ n ih=>
  show luZ::repK n=_
  rw[ih];rfl
theorem luG_eq:spP 1 luL=luG:=by
 unfold spP luG
 rw[repK_eq]
 rfl
theorem numK_eq:∀ (n s:Nat),numK n s=(List.range n).map fun(j:Nat)=>PV.int .i64 ((j+s:Nat):Int):=by
 intro n
 induction n with
 |zero=>intro s;rfl
 |succ n ih=>
  intro s
  show(PV.int .i64 (.ofNat s))::forceN (s+1) (numK n)=_
  rw[forceN_eq,ih,List.range_succ_eq_map,List.map_cons,List.map_map]
  congr 1
  ·simp
  ·apply List.map_congr_left
   intro j _
   show PV.int .i64 ((j+(s+1):Nat):Int)=PV.int .i64 ((j+1+s:Nat):Int)
   congr 2;omega
theorem luF_eq:ints (nums3 4093)=luF:=by
 unfold luF
 rw[numK_eq]
 unfold ints nums3
 rw[List.map_map]
 rfl
theorem freeze_all{h:List Ob} {i g e sz n:Nat} {xs:List PV} {ex:Bool} (hr:hget h i=.row e sz xs ex g) (hn:n=xs.length):freezeRow h i g sz 0 n=some (.vec sz xs,hset h i (.fr sz xs g)):=by
 subst hn
 unfold freezeRow
 rw[hr]
 simp only[Nat.beq_refl,Bool.and_self,cond]
 unfold subK
 rw[Nat.zero_add,Nat.ble_eq_true_of_le (Nat.le_refl _)]
 simp only[cond,lnf_eq,List.drop_zero,List.take_length,hsetK_eq]
theorem fit_one{h h1:List Ob} {v:AV} {q:PV} (hv:∀ l,v ≠ .tup l) (hp:pure1 h v=some (q,h1)):fitV h v (.p q)=some h1:=by
 have:fitV h v (.p q)=fits h [v] [.p q]:=by
  unfold fitV
  cases v<;>first|rfl|exact absurd rfl (hv _)
 rw[this]
 simp only[fits,hp,PV.same_refl,cond]
theorem spc_call:CallAt cx Tryz.prog (.fn 140 [.sl 0 0 10 0 1]) luH none (.ret (.p luS)) luH none:=by
 obtain⟨e,h',hc,b,rfl,hlen,g0,g2,hown,hnew⟩:=ct_at (space140 o0_free (kd:=1) (l:=luL) (ex:=false) (by decide) rfl)
 refine callAt_fit hc ?_
 obtain⟨i,g,hb,hr,hi⟩:∃ i g,b=.sl i g 1 0 4093∧(∃ ex,hget h' i=.row 3 1 luF ex g)∧5≤i:=by
  have h0:luF.length=4093:=by rw[← luF_eq,ints_length,nums3_len]
  rw[luF_eq]at hown
  generalize hx:luF=xs at hown h0
  cases hown with
  |nil=>simp at h0
  | @row i g _ ex hr=>exact⟨i,g,by rw[← h0],⟨ex,hr⟩,hnew i (List.mem_singleton.2 rfl)⟩
 subst hb
 obtain⟨ex,hr⟩:=hr
 have hF:luF.length=4093:=by rw[← luF_eq,ints_length,nums3_len]
 have f1:freezeRow h' 2 0 10 0 4096=some (.vec 10 luG,hset h' 2 (.fr 10 luG 0)):=by
  rw[← luG_eq]
  exact freeze_all g2 (spP_len _ _).symm
 have f2:freezeRow (hset h' 2 (.fr 10 luG 0)) i g 1 0 4093=some (.vec 1 luF,hset (hset h' 2 (.fr 10 luG 0)) i (.fr 1 luF g)):=
  freeze_all (e:=3) (ex:=ex) (by rw[hget_hset _ _ _ _ (by omega),if_neg (by omega)];exact hr) hF.symm
 have hp:pure1 h' (.agg [.sl 2 0 10 0 4096,.sl i g 1 0 4093,.p .nils,.p .nils,.p (.int .i64 1),.p (.int .i64 1)])=some (luS,hset (hset h' 2 (.fr 10 luG 0)) i (.fr 1 luF g)):=by
  simp only[pure1,pures,f1,f2]
  rfl
 unfold fitR
 rw[fit_one (fun l q=>by cases q) hp]
 have hil:i<h'.length:=hget_flat_lt (by rw[hr];rfl)
 have e0:hget (hset (hset h' 2 (.fr 10 luG 0)) i (.fr 1 luF g)) 0=.row 62 10 [luP] false 0:=by
  rw[hget_hset _ _ _ _ (by rw[hset_length];exact hil),if_neg (by omega),hget_hset _ _ _ _ (by omega),if_neg (by omega)];exact g0
 have el:0<(hset (hset h' 2 (.fr 10 luG 0)) i (.fr 1 luF g)).length:=by rw[hset_length,hset_length];omega
 generalize hset (hset h' 2 (.fr 10 luG 0)) i (.fr 1 luF g)=hh at e0 el
 cases hh with
 |nil=>simp at el
 |cons a m=>
  have:a=.row 62 10 [luP] false 0:=e0
  subst this
  show sameRows [.row 62 10 [luP] false 0] (.row 62 10 [luP] false 0::m)=true
  unfold sameRows
  have:Ob.same (.row 62 10 [luP] false 0) (.row 62 10 [luP] false 0)=true:=by
   show(Nat.beq 62 62&&Nat.beq 10 10&&PV.sames [luP] [luP]&&(false == false)&&Nat.beq 0 0)=true
   rw[PV.sames_refl];rfl
  rw[this]
  rfl
noncomputable def luSp:Spc:=⟨.vec 10 luG,.vec 1 luF,.nils,.nils,luG,nums3 4093,[],[],1,1⟩
theorem luG_len:luG.length=4096:=by rw[← luG_eq,spP_len]
theorem nums3_at{n k:Nat} (h:k<n):(nums3 n).getD k 0=((k+3:Nat):Int):=by
 unfold nums3
 simp [List.getD,h]
theorem luSp_ok:SpcOk luSp:=by
 refine⟨.vec _,?_,.nil,.nil,?_,?_,by decide,by decide⟩
 ·show SlP 1 (.vec 1 luF) (ints (nums3 4093))
  rw[luF_eq];exact .vec _
 ·show luG.length<100000
  rw[luG_len];decide
 ·show(nums3 4093).length<100000
  rw[nums3_len];decide
theorem luSp_sound:luSp.Sound:=by
 refine⟨⟨?_,?_,by decide,by decide,by decide,by decide⟩,?_,?_⟩
 ·show 2≤luG.length
  rw[luG_len];decide
 ·show luG.length≤4096
  rw[luG_len];decide
 ·intro i hi
  show IncP (luSp.L i) ((luG.length:Nat):Int)
  rw[luG_len]
  match i,hi with
  |0,_=>
   show IncP (nums3 4093) _
   intro k hk
   rw[nums3_len]at hk
   rw[nums3_at hk]
   refine⟨by omega,by omega,fun h0=>?_⟩
   rw[nums3_at (by omega)];omega
  |1,_=>intro k hk;exact absurd hk (Nat.not_lt_zero _)
  |2,_=>intro k hk;exact absurd hk (Nat.not_lt_zero _)
 ·rw[Spc.pre3]
  show(nums3 4093++[]++[]).Nodup
  rw[List.append_nil,List.append_nil]
  unfold nums3
  refine List.Pairwise.map _ (fun a b (h:a ≠ b)=>?_) List.nodup_range
  omega
theorem snd_call:CallAt cx Tryz.prog (.fn 83 [.p luS]) [] none (.ret (.p (.int .i64 0))) [] none:=by
 obtain⟨e,h',hc,rfl⟩:=ct_at (sound18 o0_free luSp_ok)
 rw[Spc.soundE_t luSp_sound]at hc
 exact callAt_drop hc rfl
theorem lu1_ok:OrcOk cx Tryz.prog lu1:=by
 refine memoG_ok KSnOrc_ok fun r hr=>?_
 rw[List.mem_singleton.1 hr]
 exact spc_call
theorem lu2_ok:OrcOk cx Tryz.prog lu2:=by
 refine memoA_ok lu1_ok fun s v hm=>?_
 simp only[List.mem_singleton,Prod.mk.injEq]at hm
 obtain⟨rfl,rfl⟩:=hm
 exact snd_call
noncomputable def luOrc:Orc:=memoG 142 [⟨[.p luS,.p luT,.p luX],[],.tup [.agg [.un,.un,.un,.un,.un,.un],.p luU,.p (.int .i64 0)],[]⟩] (memoG 141 [⟨[.p luS,.p (.str [99]),.p (.str [122])],[],.tup [.p luS,.p luX,.p (.int .i64 0)],[]⟩] lu2)
theorem luOrc_ok:OrcOk cx Tryz.prog luOrc:=by
 refine memoG_ok (memoG_ok lu2_ok fun r hr=>?_) fun r hr=>?_
 ·rw[List.mem_singleton.1 hr];exact fitIs_ok cx_ok lu2_ok luR141
 ·rw[List.mem_singleton.1 hr];exact fitIs_ok cx_ok lu2_ok luR142
end Go.Proofs

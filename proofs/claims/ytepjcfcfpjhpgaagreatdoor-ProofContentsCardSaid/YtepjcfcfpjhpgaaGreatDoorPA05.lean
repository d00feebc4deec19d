/- What is proved: the interpreter's operations stand for the model's (maps, interfaces, whole operations). Conditions: as before. -/
import Derived.Test.YtepjcfcfpjhpgaaGreatDoorPA04
import Derived.Defers
import Derived.Laws.Externs
set_option linter.all false
namespace Go.Ai
open Go Go.RowKit
section
variable {c:Ctx} {P:Program} {E:Rn} {h:List Ob} {w:World}
def OptR(E:Rn):Option AV→Option Value→Prop
 |none,none=>True
 |some x,some v=>VR E x v
 |_,_=>False
theorem run_bound{x v k y code} (hv:VR E x v) (hk:inB x (y+1)=some k) {cap:Nat} (hy:y≤cap):(Instr.sliceBound v cap code).run P w=.ok k w∧k≤y:=by
 obtain⟨j,rfl,hlt⟩:=inB_ok hv hk
 refine⟨?_,by omega⟩
 rw[run_sliceBound w j k cap code (by omega) (by omega)]
 rfl
theorem bnds_ok{lo hi lo' hi' len most cap f a} (hl:OptR E lo lo') (hh:OptR E hi hi') (hb:bnds lo hi len most f=some a) (hm:most≤cap) (hlm:len≤most) :
  ∃ l k,l≤k∧k≤most∧f l k=some a∧∀ b,(Instr.sliceBounds b len cap lo' hi' none).run P w=.ok (l,k,cap) w:=by
 unfold bnds at hb
 cases hk:bnd hi len most with
 |none=>simp [hk]at hb
 |some k=>
  simp only[hk]at hb
  cases hl2:bnd lo 0 k with
  |none=>simp [hl2]at hb
  |some l=>
   simp only[hl2]at hb
   have h1:k≤most∧∀ b,(match hi',(none:Option Value)with
     |some v,some _=>Instr.sliceBound v cap .slice3B
     |some v,none=>Instr.sliceBound v cap (if b=true then .sliceAcap else .sliceAlen)
     |none,none=>(pure len:Sem Nat)
     |none,some _=>stuck "Slice: max without high").run P w=.ok k w:=by
    cases hi with
    |none=>
     cases hi' with
     |none=>simp only[bnd,Option.some.injEq]at hk;subst hk;exact⟨hlm,fun _=>rfl⟩
     |some v=>exact hh.elim
    |some x=>
     cases hi' with
     |none=>exact hh.elim
     |some v=>exact⟨(run_bound (P:=P) (w:=w) (code:=.sliceAcap) hh hk hm).2,fun b=>(run_bound hh hk hm).1⟩
   have h2:l≤k∧(match lo' with
     |some v=>Instr.sliceBound v k .sliceB
     |none=>(pure 0:Sem Nat)).run P w=.ok l w:=by
    cases lo with
    |none=>
     cases lo' with
     |none=>simp only[bnd,Option.some.injEq]at hl2;subst hl2;exact⟨Nat.zero_le _,rfl⟩
     |some v=>exact hl.elim
    |some x=>
     cases lo' with
     |none=>exact hl.elim
     |some v=>exact⟨(run_bound (P:=P) (w:=w) (code:=.sliceB) hl hl2 (Nat.le_refl _)).2,(run_bound hl hl2 (Nat.le_refl _)).1⟩
   refine⟨l,k,h2.1,h1.1,hb,fun b=>?_⟩
   have e1:=h1.2 b
   have e2:=h2.2
   cases hi' with
   |none=>
    have e1':len=k:=by simpa using e1
    cases lo' with
    |none=>
     have e2':0=l:=by simpa using e2
     subst e1';subst e2';rfl
    |some v=>subst e1';simp only[]at e2;simp [Instr.sliceBounds,e2]
   |some u=>
    simp only[]at e1
    cases lo' with
    |none=>
     have e2':0=l:=by simpa using e2
     subst e2';simp [Instr.sliceBounds,e1]
    |some v=>simp only[]at e2;simp [Instr.sliceBounds,e1,e2]
theorem bnds3_ok{lo hi mx lo' hi' mx' len most cap f a m} (hl:OptR E lo lo') (hh:VR E hi hi') (hx:VR E mx mx') (hm:inB mx (most+1)=some m) (hb:bnds lo (some hi) 0 m f=some a) (hc:most≤cap) :
  ∃ l k,l≤k∧k≤m∧m≤most∧f l k=some a∧∀ b,(Instr.sliceBounds b len cap lo' (some hi') (some mx')).run P w=.ok (l,k,m) w:=by
 unfold bnds at hb
 cases hk:bnd (some hi) 0 m with
 |none=>simp [hk]at hb
 |some k=>
  simp only[hk]at hb
  cases hl2:bnd lo 0 k with
  |none=>simp [hl2]at hb
  |some l=>
   simp only[hl2]at hb
   have h0:=fun code=>run_bound (P:=P) (w:=w) (code:=code) hx hm hc
   have h1:=fun code=>run_bound (P:=P) (w:=w) (code:=code) hh hk (Nat.le_refl _)
   have hkm:=(h1 .sliceB).2
   have hmm:=(h0 .sliceB).2
   cases lo with
   |none=>
    cases lo' with
    |none=>
     simp only[bnd,Option.some.injEq]at hl2;subst hl2
     exact⟨0,k,Nat.zero_le _,hkm,hmm,hb,fun b=>by simp [Instr.sliceBounds,(h0 _).1,(h1 _).1]⟩
    |some v=>exact hl.elim
   |some x=>
    cases lo' with
    |none=>exact hl.elim
    |some v=>
     have h2:=fun code=>run_bound (P:=P) (w:=w) (code:=code) hl hl2 (Nat.le_refl _)
     exact⟨l,k,(h2 .sliceB).2,hkm,hmm,hb,fun b=>by simp [Instr.sliceBounds,(h0 _).1,(h1 _).1,(h2 _).1]⟩
theorem run_sliceAt_sl(C:CtxOk c P) {t e sz b off len cap lo' hi' mx' l k m} (ht:c.under t=some (.slice e)) (hs:sizeOf? c e=some sz)
  (hb:(Instr.sliceBounds true len cap lo' hi' mx').run P w=.ok (l,k,m) w) :
  (Instr.sliceAt t (.slice (some ⟨b,off,none⟩) len cap) lo' hi' mx').run P w=.ok (.slice (some (if m=l then⟨b,off,none⟩else⟨b,off+l*sz,none⟩)) (k-l) (m-l)) w:=by
 simp only[Instr.sliceAt,Instr.slice,Sem.run_bind,run_underlying C ht,Result.andThen_ok,hb,run_sizeOf C hs,Sem.run_pure]
 by_cases hm:m=l
 ·simp [hm]
 ·simp [hm,addr_add]
theorem run_sliceAt_nil(C:CtxOk c P) {t e sz lo' hi' mx' l k m} (ht:c.under t=some (.slice e)) (hs:sizeOf? c e=some sz)
  (hb:(Instr.sliceBounds true 0 0 lo' hi' mx').run P w=.ok (l,k,m) w) :
  (Instr.sliceAt t (.slice none 0 0) lo' hi' mx').run P w=.ok (.slice none (k-l) (m-l)) w:=by
 simp only[Instr.sliceAt,Instr.slice,Sem.run_bind,run_underlying C ht,Result.andThen_ok,hb,run_sizeOf C hs,Sem.run_pure]
 by_cases hm:m=l
 ·simp [hm]
 ·simp [hm]
theorem run_sliceAt_arr(C:CtxOk c P) {t n e sz b off lo' hi' mx' l k m} (ht:c.under t=some (.array n e)) (hs:sizeOf? c e=some sz)
  (hb:(Instr.sliceBounds false n n lo' hi' mx').run P w=.ok (l,k,m) w) :
  (Instr.sliceAt t (.pointer (some ⟨b,off,none⟩)) lo' hi' mx').run P w=.ok (.slice (some (if m=l then⟨b,off,none⟩else⟨b,off+l*sz,none⟩)) (k-l) (m-l)) w:=by
 simp only[Instr.sliceAt,Sem.run_bind,run_underlying C ht,Result.andThen_ok,hb,run_sizeOf C hs,Sem.run_pure,Instr.sureAddr]
 by_cases hm:m=l
 ·simp [hm]
 ·simp [hm,addr_add]
theorem ElemsG.nil{f:Nat→Option (Array Value)} {g:Nat→Option Value} {off sz}:ElemsG f g off sz []:=by intro i x hx;simp at hx
theorem PR.vecNil{f sz b off cap}:PR f (.vec sz []) (.slice (some ⟨b,off,none⟩) 0 cap):=PR.of_elems (Nat.zero_le _) .nil
theorem vec_slice{f sz xs b off cap l k m} (hp:ElemsG f (cellF f b) off sz xs) (hc:xs.length≤cap) (hlk:l≤k) (hk:k≤xs.length) (hkm:k≤m) :
  PR f (.vec sz ((xs.take k).drop l)) (.slice (some (if m=l then⟨b,off,none⟩else⟨b,off+l*sz,none⟩)) (k-l) (m-l)):=by
 have hlen:((xs.take k).drop l).length=k-l:=by simp;omega
 by_cases hm:m=l
 ·have:(xs.take k).drop l=[]:=List.eq_nil_of_length_eq_zero (by omega)
  rw[this,if_pos hm,show k-l=0 by omega]
  exact PR.vecNil
 ·rw[if_neg hm,← hlen]
  refine PR.of_elems (by omega) ?_
  intro i x hx
  rw[List.getElem?_drop,List.getElem?_take]at hx
  split at hx
  ·obtain⟨a,bb⟩:=hp _ x hx
   refine⟨a,?_⟩
   rwa[show off+l*sz+i*sz=off+(l+i)*sz by rw[Nat.add_mul];omega]
  ·cases hx
theorem moreOf_le(W:WR E h w) {i g s off len b n cap} (ha:E.a i g=some (b,n)) (hc:(off+cap)*s=n) (hl:len≤cap) (h0:0<s):len+moreOf h (.sl i g s off len)≤cap:=by
 unfold moreOf
 dsimp only
 split
 ·rename_i xs hr
  have hr':=hr
  unfold rowAt at hr
  have key:xs.length*s≤n∨∃ g',hget h i=.fr s xs g':=by
   split at hr
   ·rename_i e sz' ys ex g' ho
    cases hb:(Nat.beq g g'&&Nat.beq s sz')with
    |false=>simp [hb]at hr
    |true=>
     simp only[hb,cond,Option.some.injEq]at hr;subst hr
     simp only[Bool.and_eq_true,Nat.beq_eq]at hb
     obtain⟨rfl,rfl⟩:=hb
     obtain⟨vs,z,_,_,_,_,hn,_⟩:=row_lies W ho ha
     exact .inl hn
   ·rename_i sz' ys g' ho
    cases hb:(Nat.beq g g'&&Nat.beq s sz')with
    |false=>simp [hb]at hr
    |true=>
     simp only[hb,cond,Option.some.injEq]at hr;subst hr
     simp only[Bool.and_eq_true,Nat.beq_eq]at hb
     obtain⟨rfl,rfl⟩:=hb
     exact .inr ⟨_,ho⟩
   ·cases hr
  rcases key with hk|⟨g',ho⟩
  ·have:xs.length*s≤(off+cap)*s:=by omega
   have:=Nat.le_of_mul_le_mul_right this h0
   omega
  ·have hi:i<h.length:=lt_of_hget (by rw[ho];rfl)
   have hg:g=g':=by
    unfold rowAt at hr'
    rw[ho]at hr'
    dsimp only at hr'
    by_cases e:g=g'
    ·exact e
    ·have hb:Nat.beq g g'=false:=by
      cases h:Nat.beq g g' with
      |false=>rfl
      |true=>exact absurd (Nat.eq_of_beq_eq_true h) e
     simp [hb]at hr'
   have hob:=W.obj i b n hi (by rw[ho];rw[← hg];exact ha)
   rw[ho]at hob
   cases hob with
   |fr _ hn _=>
    have:xs.length*s≤(off+cap)*s:=by omega
    have:=Nat.le_of_mul_le_mul_right this h0
    omega
 ·omega
theorem slice2_ok(C:CtxOk c P) (W:WR E h w) {t X v lo hi lo' hi' a} (more:Nat) (hm:more=0∨more=moreOf h X) (hv:VR E X v) (hl:OptR E lo lo') (hh:OptR E hi hi') (hs:slice2 c t X more lo hi=some a) :
  ∃ u,(Instr.sliceAt t v lo' hi' none).run P w=.ok u w∧VR E a u:=by
 unfold slice2 at hs
 split at hs
 ·rename_i ht
  split at hs
  ·split at hs
   ·rename_i s
    obtain⟨l,k,hlk,hk,hf,hr⟩:=bnds_ok (P:=P) (w:=w) hl hh hs (Nat.le_refl _) (Nat.le_refl _)
    simp only[lnf_eq,Option.some.injEq]at hf;subst hf
    have:=hv.p_inv
    cases this with
    |str s' l' hl'=>
    have hsz:s'.size=s.length:=by rw[← hl'];rfl
    refine⟨.string (s'.extract l k),?_,.p (.str _ _ ?_)⟩
    ·simp [Instr.sliceAt,Instr.slice,run_underlying C ht,hsz,hr false]
    ·rw[← hl']
     simp [ByteArray.data_extract,List.drop_take]
   ·cases hs
  ·cases hs
 ·rename_i e ht
  split at hs
  ·rename_i sz hsz
   split at hs
   ·split at hs
    ·obtain⟨l,k,hlk,hk,hf,hr⟩:=bnds_ok (P:=P) (w:=w) hl hh hs (Nat.le_refl _) (Nat.le_refl _)
     simp only[Option.some.injEq]at hf;subst hf
     have:=hv.p_inv;cases this
     refine⟨_,run_sliceAt_nil C ht hsz (hr true),?_⟩
     rw[show k-l=0 by omega,show 0-l=0 by omega]
     exact .p .nils
    ·rename_i s xs
     cases hb:Nat.beq s (sz+1)with
     |false=>simp [hb]at hs
     |true=>
      have:=Nat.eq_of_beq_eq_true hb
      subst this
      simp only[hb,cond]at hs
      obtain⟨b,off,cap,rfl,hc,he⟩:=hv.p_inv.elems (.inl (Nat.succ_pos _))
      obtain⟨l,k,hlk,hk,hf,hr⟩:=bnds_ok (P:=P) (w:=w) hl hh hs hc (Nat.le_refl _)
      simp only[lnf_eq,Option.some.injEq]at hf;subst hf
      exact⟨_,run_sliceAt_sl C ht hsz (hr true),.p (vec_slice he hc hlk hk (by omega))⟩
    ·cases hs
   ·rename_i s xs
    cases hb:Nat.beq s (sz+1)with
    |false=>simp [hb]at hs
    |true=>
     have:=Nat.eq_of_beq_eq_true hb
     subst this
     simp only[hb,cond]at hs
     cases hv with
     |full hp hcc=>
     obtain⟨b,off,cap,rfl,hc,he⟩:=hp.elems (.inl (Nat.succ_pos _))
     obtain⟨l,k,hlk,hk,hf,hr⟩:=bnds_ok (P:=P) (w:=w) hl hh hs hc (Nat.le_refl _)
     cases hbl:Nat.beq l k with
     |true=>simp [hbl]at hf
     |false=>
      simp only[hbl,cond,lnf_eq,Option.some.injEq]at hf;subst hf
      exact⟨_,run_sliceAt_sl C ht hsz (hr true),.p (vec_slice he hc hlk hk (by omega))⟩
   ·rename_i i g s off len
    cases hb:Nat.beq s (sz+1)with
    |false=>simp [hb]at hs
    |true=>
     have:=Nat.eq_of_beq_eq_true hb
     subst this
     simp only[hb,cond]at hs
     cases hv with
     | @sl _ _ _ _ _ b n cap ha hc hle h0=>
     have hcap:len+more≤cap:=by
      rcases hm with rfl|rfl
      ·exact hle
      ·exact moreOf_le W ha hc hle h0
     obtain⟨l,k,hlk,hk,hf,hr⟩:=bnds_ok (P:=P) (w:=w) hl hh hs hcap (Nat.le_add_right ..)
     refine⟨_,run_sliceAt_sl C ht hsz (hr true),?_⟩
     cases hx:(Nat.beq l (len+more)&&Nat.blt 0 l)with
     |true=>
      simp only[hx,Option.some.injEq]at hf;subst hf
      simp only[Bool.and_eq_true,Nat.beq_eq]at hx
      have hlk':k-l=0:=by omega
      rw[hlk']
      split
      ·exact .p .vecNil
      ·exact .p .vecNil
     |false=>
      simp only[hx,forceN_eq,Option.some.injEq]at hf;subst hf
      have hne:cap ≠ l∨l=0:=by
       rw[Bool.and_eq_false_iff]at hx
       rcases hx with hx|hx
       ·left;intro e
        have:l=len+more:=by omega
        rw[this,Nat.beq_refl]at hx;cases hx
       ·right
        cases l with
        |zero=>rfl
        |succ l=>exact absurd (show Nat.blt 0 (l+1)=true from Nat.ble_eq_true_of_le (by omega)) (by rw[hx];simp)
      have hadr:(if cap=l then(⟨b,off*(sz+1),none⟩:Addr)else⟨b,off*(sz+1)+l*(sz+1),none⟩)=⟨b,(off+l)*(sz+1),none⟩:=by
       rw[Nat.add_mul]
       rcases hne with hne|rfl
       ·rw[if_neg hne]
       ·split<;>simp
      rw[hadr]
      exact .sl ha (by rw[← hc];congr 1;omega) (by omega) h0
   ·rename_i i off len s
    cases hb:Nat.beq s (sz+1)with
    |false=>simp [hb]at hs
    |true=>
     have:=Nat.eq_of_beq_eq_true hb
     subst this
     simp only[hb,cond]at hs
     cases hv with
     | @asl _ _ _ _ b n cap ha hle=>
     obtain⟨l,k,hlk,hk,hf,hr⟩:=bnds_ok (P:=P) (w:=w) hl hh hs hle (Nat.le_refl _)
     refine⟨_,run_sliceAt_sl C ht hsz (hr true),?_⟩
     cases hx:(Nat.beq l len&&Nat.blt 0 l)with
     |true=>
      simp only[hx,Option.some.injEq]at hf;subst hf
      simp only[Bool.and_eq_true,Nat.beq_eq]at hx
      have hlk':k-l=0:=by omega
      rw[hlk']
      split
      ·exact .p .vecNil
      ·exact .p .vecNil
     |false=>
      simp only[hx,forceN_eq,Option.some.injEq]at hf;subst hf
      have hne:cap ≠ l∨l=0:=by
       rw[Bool.and_eq_false_iff]at hx
       rcases hx with hx|hx
       ·left;intro e
        have:l=len:=by omega
        rw[this,Nat.beq_refl]at hx;cases hx
       ·right
        cases l with
        |zero=>rfl
        |succ l=>exact absurd (show Nat.blt 0 (l+1)=true from Nat.ble_eq_true_of_le (by omega)) (by rw[hx];simp)
      have hadr:(if cap=l then(⟨b,off,none⟩:Addr)else⟨b,off+l*(sz+1),none⟩)=⟨b,off+l*(sz+1),none⟩:=by
       rcases hne with hne|rfl
       ·rw[if_neg hne]
       ·split<;>simp
      rw[hadr]
      exact .asl ha (by omega)
   ·cases hs
  ·cases hs
 ·rename_i n e ht
  split at hs
  ·rename_i sz hsz
   split at hs
   ·rename_i i off
    obtain⟨l,k,hlk,hk,hf,hr⟩:=bnds_ok (P:=P) (w:=w) hl hh hs (Nat.le_refl _) (Nat.le_refl _)
    cases hv with
    | @ptr _ _ b m ha=>
    refine⟨_,run_sliceAt_arr C ht hsz (hr false),?_⟩
    cases hx:(Nat.beq l n&&Nat.blt 0 l)with
    |true=>
     simp only[hx,cond,Option.some.injEq]at hf;subst hf
     simp only[Bool.and_eq_true,Nat.beq_eq]at hx
     have hlk':k-l=0:=by omega
     rw[hlk']
     split
     ·exact .p .vecNil
     ·exact .p .vecNil
    |false=>
     simp only[hx,cond,forceN_eq,Option.some.injEq]at hf;subst hf
     have hne:n ≠ l∨l=0:=by
      rw[Bool.and_eq_false_iff]at hx
      rcases hx with hx|hx
      ·left;intro e
       rw[e,Nat.beq_refl]at hx;cases hx
      ·right
       cases l with
       |zero=>rfl
       |succ l=>exact absurd (show Nat.blt 0 (l+1)=true from Nat.ble_eq_true_of_le (by omega)) (by rw[hx];simp)
     have hadr:(if n=l then(⟨b,off,none⟩:Addr)else⟨b,off+l*(sz+1),none⟩)=⟨b,off+l*(sz+1),none⟩:=by
      rcases hne with hne|rfl
      ·rw[if_neg hne]
      ·split<;>simp
     rw[hadr]
     exact .asl ha (by omega)
   ·rename_i p
    cases hb:(Nat.beq (sz+1) 1&&Nat.beq p.cells.length n)with
    |false=>simp [hb]at hs
    |true=>
     simp only[hb,cond]at hs
     simp only[Bool.and_eq_true,Nat.beq_eq]at hb
     obtain⟨hb1,hb2⟩:=hb
     obtain⟨l,k,hlk,hk,hf,hr⟩:=bnds_ok (P:=P) (w:=w) hl hh hs (Nat.le_refl _) (Nat.le_refl _)
     simp only[lnf_eq,Option.some.injEq]at hf;subst hf
     cases hv with
     | @cptr _ b off hc=>
     refine⟨_,run_sliceAt_arr C ht hsz (hr false),?_⟩
     have hsz1:sz=0:=by omega
     subst hsz1
     refine .p (vec_slice (sz:=1) (xs:=p.cells) (cap:=p.cells.length) ?_ (Nat.le_refl _) hlk (by omega) (by omega))
     intro i x hx
     obtain⟨u,h1,h2,h3⟩:=hc i x hx
     have hxc:=cells_one_pv h3 h2
     refine⟨by rw[hxc];rfl,?_⟩
     rw[hxc]
     intro j y hy
     cases j with
     |zero=>simp only[List.getElem?_cons_zero,Option.some.injEq]at hy;subst hy;exact⟨u,by simpa using h1,h2,h3⟩
     |succ j=>simp at hy
   ·cases hs
  ·cases hs
 ·cases hs
end
section
variable {c:Ctx} {P:Program} {E:Rn} {h:List Ob} {w:World}
theorem slice3_ok(C:CtxOk c P) (W:WR E h w) {t X v lo hi mx lo' hi' mx' a} (hv:VR E X v) (hl:OptR E lo lo') (hh:OptR E hi hi') (hx:VR E mx mx') (hs:slice3 c t X lo hi mx=some a) :
  ∃ u,(Instr.sliceAt t v lo' hi' (some mx')).run P w=.ok u w∧VR E a u:=by
 unfold slice3 at hs
 split at hs
 ·rename_i e hi ht
  cases hi' with
  |none=>exact hh.elim
  |some hi'=>
  split at hs
  ·rename_i sz hsz
   split at hs
   ·split at hs
    ·split at hs
     ·rename_i m hm
      obtain⟨l,k,hlk,hk,hmm,hf,hr⟩:=bnds3_ok (P:=P) (w:=w) (len:=0) (cap:=0) (most:=0) hl hh hx hm hs (Nat.le_refl _)
      simp only[Option.some.injEq]at hf;subst hf
      have:=hv.p_inv;cases this
      refine⟨_,run_sliceAt_nil C ht hsz (hr true),?_⟩
      rw[show k-l=0 by omega,show m-l=0 by omega]
      exact .p .nils
     ·cases hs
    ·rename_i s xs
     cases hb:Nat.beq s (sz+1)with
     |false=>simp [hb]at hs
     |true=>
      have:=Nat.eq_of_beq_eq_true hb
      subst this
      simp only[hb,cond]at hs
      split at hs
      ·rename_i m hm
       obtain⟨b,off,cap,rfl,hc,he⟩:=hv.p_inv.elems (.inl (Nat.succ_pos _))
       obtain⟨l,k,hlk,hk,hmm,hf,hr⟩:=bnds3_ok (P:=P) (w:=w) (len:=xs.length) hl hh hx hm hs hc
       refine⟨_,run_sliceAt_sl C ht hsz (hr true),?_⟩
       cases hkm:Nat.beq k m with
       |false=>simp only[hkm,cond,Option.some.injEq]at hf;subst hf;exact .un _
       |true=>
        have:=Nat.eq_of_beq_eq_true hkm
        subst this
        simp only[hkm,cond,lnf_eq,Option.some.injEq]at hf;subst hf
        refine .full (vec_slice he hc hlk hmm (Nat.le_refl _)) ?_
        intro a n cc hcc
        simp only[Value.slice.injEq]at hcc
        omega
      ·cases hs
    ·cases hs
   ·rename_i i g s off len
    cases hb:Nat.beq s (sz+1)with
    |false=>simp [hb]at hs
    |true=>
     have:=Nat.eq_of_beq_eq_true hb
     subst this
     simp only[hb,cond]at hs
     split at hs
     ·rename_i m hm
      cases hv with
      | @sl _ _ _ _ _ b n cap ha hc hle h0=>
      obtain⟨l,k,hlk,hk,hmm,hf,hr⟩:=bnds3_ok (P:=P) (w:=w) (len:=len) hl hh hx hm hs hle
      refine⟨_,run_sliceAt_sl C ht hsz (hr true),?_⟩
      cases hkm:(Nat.beq k m&&Nat.beq k l)with
      |false=>simp only[hkm,cond,Option.some.injEq]at hf;subst hf;exact .un _
      |true=>
       simp only[Bool.and_eq_true,Nat.beq_eq]at hkm
       obtain⟨rfl,rfl⟩:=hkm
       simp only[Nat.beq_refl,Bool.and_self,cond,Option.some.injEq]at hf;subst hf
       rw[Nat.sub_self,if_pos rfl]
       exact .full .vecNil (by intro a n cc hcc;simp only[Value.slice.injEq]at hcc;omega)
     ·cases hs
   ·cases hs
  ·cases hs
 ·cases hs
theorem lenP_ok(C:CtxOk c P) {t X v a ty} (hv:VR E X v) (hs:lenP c t X=some a):∃ u,(Builtin.len_ #[t] ty #[v]).run P w=.ok u w∧VR E a u:=by
 unfold lenP at hs
 split at hs
 ·rename_i n e ht
  simp only[Option.some.injEq]at hs;subst hs
  exact⟨.int .i64 n,by simp [Builtin.len_,run_underlying C ht,goInt],.p (.int .i64 (.ofNat n))⟩
 ·rename_i ar ht
  split at hs
  ·rename_i n e ha
   simp only[Option.some.injEq]at hs;subst hs
   exact⟨.int .i64 n,by simp [Builtin.len_,run_underlying C ht,run_underlying C ha,goInt],.p (.int .i64 (.ofNat n))⟩
  ·cases hs
 ·rename_i ht
  split at hs
  ·split at hs
   ·rename_i s
    simp only[forceN_eq,Option.some.injEq]at hs;subst hs
    have:=hv.p_inv
    cases this with
    |str s' l hl=>
    refine⟨.int .i64 s'.size,by simp [Builtin.len_,run_underlying C ht,goInt],?_⟩
    have:s'.size=s.length:=by rw[← hl];rfl
    rw[this];exact .p (.int .i64 (.ofNat s.length))
   ·cases hs
  ·cases hs
 ·rename_i e ht
  split at hs
  ·cases hs
  ·rename_i hns
   split at hs
   ·rename_i n hn
    simp only[forceN_eq,Option.some.injEq]at hs;subst hs
    have key:∃ b cp,v=.slice b n cp:=by
     cases hv with
     |p hp=>
      cases hp with
      |nils=>simp only[lenOf?,Option.some.injEq]at hn;subst hn;exact⟨_,_,rfl⟩
      |vec c hn' hc=>simp only[lenOf?,Option.some.injEq]at hn;subst hn;subst hn';exact⟨_,_,rfl⟩
      |emp=>simp only[lenOf?,Option.some.injEq]at hn;subst hn;exact⟨_,_,rfl⟩
      |str s l hl=>exact absurd rfl (hns _)
      |_=>simp [lenOf?]at hn
     |full hp hc=>
      obtain⟨a,cp,rfl⟩:=hp.elems0
      simp only[lenOf?,Option.some.injEq]at hn;subst hn;exact⟨_,_,rfl⟩
     |sl=>simp only[lenOf?,Option.some.injEq]at hn;subst hn;exact⟨_,_,rfl⟩
     |asl=>simp only[lenOf?,Option.some.injEq]at hn;subst hn;exact⟨_,_,rfl⟩
     |_=>simp [lenOf?]at hn
    obtain⟨b,cp,rfl⟩:=key
    exact⟨.int .i64 n,by simp [Builtin.len_,run_underlying C ht,goInt],.p (.int .i64 (.ofNat n))⟩
   ·cases hs
 ·cases hs
theorem map_lies(W:WR E h w) {i es b n} (ho:hget h i=.map es) (ha:E.a i 0=some (b,n)) :
  ∃ es' clock,w.heap[b]?=some (.map es' clock)∧es.length=es'.size∧(∀ (i:Nat) (x:PV×PV) (y:MapEntry),es[i]?=some x→es'[i]?=some y→PR E.f x.1 y.key∧PR E.f x.2 y.val)∧clock=es'.size∧∀ (i:Nat) (y:MapEntry),es'[i]?=some y→y.born=i:=by
 have hi:i<h.length:=lt_of_hget (by rw[ho];rfl)
 have hob:=W.obj i b n hi (by rw[ho];exact ha)
 rw[ho]at hob
 generalize hx:w.heap[b]?=x at hob
 cases hob with
 | @map _ _ _ es' clock hs hk hm=>exact⟨es',clock,rfl,hs,hm,hk⟩
theorem run_getMap{b es clock} (hb:w.heap[b]?=some (.map es clock)):(getObj b).run P w=.ok (.map es clock) w:=by
 simp [getObj,Sem.run,hb]
theorem lenM_ok(C:CtxOk c P) (W:WR E h w) {t X v a ty} (hv:VR E X v) (hs:lenM c h t X=some a):∃ u,(Builtin.len_ #[t] ty #[v]).run P w=.ok u w∧VR E a u:=by
 unfold lenM at hs
 split at hs
 ·rename_i k e ht
  split at hs
  ·split at hs
   ·simp only[Option.some.injEq]at hs;subst hs
    have:=hv.p_inv;cases this
    exact⟨.int .i64 0,by simp [Builtin.len_,run_underlying C ht,goInt],.p (.int .i64 0)⟩
   ·cases hs
  ·rename_i i
   split at hs
   ·rename_i es ho
    simp only[forceN_eq,Option.some.injEq]at hs;subst hs
    cases hv with
    | @map _ b n ha=>
    obtain⟨es',clock,hb,hl,_⟩:=map_lies W ho ha
    refine⟨.int .i64 es'.size,by simp [Builtin.len_,run_underlying C ht,run_getMap hb,goInt],?_⟩
    rw[← hl];exact .p (.int .i64 (.ofNat es.length))
   ·cases hs
  ·cases hs
 ·cases hs
theorem keyOk_ok{kt k} (hk:keyOk c kt k=true):(∃ j a,c.under kt=some (.int j)∧k=.int j a)∨(∃ s,c.under kt=some .string∧k=.str s):=by
 unfold keyOk at hk
 split at hk
 ·rename_i j j' a hu
  exact .inl ⟨j,a,hu,by rw[beq_iff_eq.1 hk]⟩
 ·rename_i s hu
  exact .inr ⟨s,hu,rfl⟩
 ·cases hk
theorem beqBytes_true{a b} (h:beqBytes a b=true):a=b:=by rw[beqBytes_eq]at h;simpa using h
theorem eqKey_ok{f:Nat→Option (Array Value)} {k q:PV} {kv qv:Value} {D:TypeDesc} {b:Bool} (hD:(∃ j a,D=.int j∧k=.int j a)∨(∃ s,D=.string∧k=.str s)) (hk:PR f k kv) (hq:PR f q qv) (he:eqKey k q=some b) :
  Instr.sameNow D kv qv=some b∧(b=true→k=q∧∀ n,Instr.sameBits (n+1) qv kv=true):=by
 rcases hD with⟨j,a,rfl,rfl⟩|⟨s,rfl,rfl⟩
 ·cases q with
  |int j' a'=>
   simp only[eqKey]at he
   cases hb:Nat.beq (knd j) (knd j')with
   |false=>simp [hb]at he
   |true=>
    have:=knd_inj hb
    subst this
    simp only[hb,cond,Option.some.injEq]at he
    cases hk;cases hq
    rw[eqI_eq]at he
    subst he
    refine⟨?_,?_⟩
    ·simp only[Instr.sameNow,if_true,Option.some.injEq]
     rw[Bool.eq_iff_iff];simp
    ·intro hh
     have:=of_decide_eq_true hh
     subst this
     exact⟨rfl,fun n=>by simp [Instr.sameBits]⟩
  |_=>simp [eqKey]at he
 ·cases q with
  |str s'=>
   simp only[eqKey,Option.some.injEq]at he
   cases hk with
   |str sv _ h1=>
   cases hq with
   |str sv' _ h2=>
   subst he
   have hiff:(sv == sv')=beqBytes s s':=by
    rw[beq_toListBytes,strEq,h1,h2]
   refine⟨by simp only[Instr.sameNow,hiff],fun hh=>?_⟩
   have e2:=beqBytes_true hh
   have hiff2:(sv' == sv)=true:=by
    rw[beq_toListBytes,strEq,h1,h2,← e2,beqBytes_eq];simp
   subst e2
   exact⟨rfl,fun n=>by simp only[Instr.sameBits];exact hiff2⟩
  |_=>simp [eqKey]at he
theorem findKey_ok{f:Nat→Option (Array Value)} {k:PV} {kv:Value} {D:TypeDesc} (hD:(∃ j a,D=.int j∧k=.int j a)∨(∃ s,D=.string∧k=.str s)) (hk:PR f k kv) :
  ∀ (es:List (PV×PV)) (es':List MapEntry) (i:Nat) (r:Option (Nat×PV)),es.length=es'.length→(∀ (i:Nat) (x:PV×PV) (y:MapEntry),es[i]?=some x→es'[i]?=some y→PR f x.1 y.key∧PR f x.2 y.val) →
  findKey k es i=some r→(r=none∧Instr.findNow D kv es' i=some none) ∨
   ∃ j q v e',r=some (i+j,v)∧es[j]?=some (q,v)∧es'[j]?=some e'∧Instr.findNow D kv es' i=some (some (i+j,e'.val))∧PR f v e'.val∧k=q∧(∀ n,Instr.sameBits (n+1) e'.key kv=true)
 | [],[],i,r,_,_,hf=>by simp only[findKey,Option.some.injEq]at hf;subst hf;exact .inl ⟨rfl,rfl⟩
 | [],_::_,_,_,hl,_,_=>by simp at hl
 |_::_,[],_,_,hl,_,_=>by simp at hl
 | (q,v)::es,e'::es',i,r,hl,hp,hf=>by
  obtain⟨p1,p2⟩:=hp 0 _ _ rfl rfl
  simp only[findKey]at hf
  cases he:eqKey k q with
  |none=>simp [he]at hf
  |some b=>
   obtain⟨s1,s2⟩:=eqKey_ok hD hk p1 he
   cases b with
   |true=>
    simp only[he,Option.some.injEq]at hf;subst hf
    obtain⟨e1,e2⟩:=s2 rfl
    refine .inr ⟨0,q,v,e',rfl,rfl,rfl,?_,p2,e1,e2⟩
    simp [Instr.findNow,s1]
   |false=>
    simp only[he]at hf
    rcases findKey_ok hD hk es es' (i+1) r (by simpa using hl) (fun j x y hx hy=>hp (j+1) x y (by simpa using hx) (by simpa using hy)) hf with⟨rfl,h2⟩|⟨j,q',v',y,rfl,h2,h3,h4,h5,h6,h7⟩
    ·exact .inl ⟨rfl,by simp [Instr.findNow,s1,h2]⟩
    ·refine .inr ⟨j+1,q',v',y,by rw[show i+(j+1)=i+1+j by omega],by simpa using h2,by simpa using h3,?_,h5,h6,h7⟩
     simp only[Instr.findNow,s1,h4]
     rw[show i+(j+1)=i+1+j by omega]
theorem run_checkKey(C:CtxOk c P) {kt:TypeId} {D:TypeDesc} {kv:Value} {e:Bool} {n:Nat} (hu:c.under kt=some D) (hD:(∃ j,D=.int j)∨D=.string):(Instr.checkKey e (n+1) kt kv).run P w=.ok () w:=by
 rcases hD with⟨j,rfl⟩|rfl<;>simp [Instr.checkKey,run_underlying C hu]
theorem lookup_ok(C:CtxOk c P) (W:WR E h w) {t X K v u a ok} (hv:VR E X v) (hu:VR E K u) (hs:lookup? c h t X K ok=some a) :
  ∃ r,(Instr.lookup t v u ok).run P w=.ok r w∧VR E a r:=by
 unfold lookup? at hs
 split at hs
 ·rename_i kt e ht
  split at hs
  ·rename_i k es z hes hz
   cases hk:keyOk c kt k with
   |false=>simp [hk]at hs
   |true=>
    simp only[hk,cond]at hs
    have hkp:=hu.p_inv
    obtain⟨ti,zv,hi,hzv,hpr⟩:=zero_pr hz
    have hzr:=run_zeroValue (w:=w) C hi hzv
    have hD:∃ D,c.under kt=some D∧((∃ j a,D=.int j∧k=.int j a)∨(∃ s,D=.string∧k=.str s)):=by
     rcases keyOk_ok hk with⟨j,a,h1,h2⟩|⟨s,h1,h2⟩
     ·exact⟨_,h1,.inl ⟨j,a,rfl,h2⟩⟩
     ·exact⟨_,h1,.inr ⟨s,rfl,h2⟩⟩
    obtain⟨D,hu',hD⟩:=hD
    have hD':(∃ j,D=.int j)∨D=.string:=by
     rcases hD with⟨j,a,h1,_⟩|⟨s,h1,_⟩
     ·exact .inl ⟨j,h1⟩
     ·exact .inr h1
    -- the entries
    have hent : ∃ es' : Array MapEntry, (v = .map none ∧ es' = #[] ∨ ∃ b clock, v = .map (some b) ∧ w.heap[b]? = some (.map es' clock)) ∧ es.length = es'.size ∧
      ∀ (i:Nat) (x:PV×PV) (y:MapEntry),es[i]?=some x→es'[i]?=some y→PR E.f x.1 y.key∧PR E.f x.2 y.val:=by
     unfold entries? at hes
     split at hes
     ·split at hes
      ·simp only[Option.some.injEq]at hes;subst hes
       have:=hv.p_inv;cases this
       exact⟨#[],.inl ⟨rfl,rfl⟩,rfl,by simp⟩
      ·cases hes
     ·rename_i i
      split at hes
      ·rename_i es0 ho
       simp only[Option.some.injEq]at hes;subst hes
       cases hv with
       | @map _ b n ha=>
       obtain⟨es',clock,hb,hl,hm,_⟩:=map_lies W ho ha
       exact⟨es',.inr ⟨b,clock,rfl,hb⟩,hl,hm⟩
      ·cases hes
     ·cases hes
    obtain⟨es',hv',hl,hm⟩:=hent
    have hpre:∀ (e0:Bool),(Instr.checkKey e0 10000 kt u).run P w=.ok () w:=fun e0=>run_checkKey (n:=9999) C hu' hD'
    have hrun:∀ fr,Instr.findNow D u es'.toList 0=some fr→(Instr.lookup t v u ok).run P w=.ok (match fr with|some (_,x)=>(if ok=true then .tuple #[x,.bool true]else x)|none=>(if ok=true then .tuple #[zv,.bool false]else zv)) w:=by
     intro fr hfr
     rcases hv' with⟨rfl,rfl⟩|⟨b,clock,rfl,hb⟩
     ·cases fr<;>simp [Instr.lookup,run_underlying C ht,hpre,Instr.findKey,run_underlying C hu',hfr,hzr]
     ·cases fr<;>simp [Instr.lookup,run_underlying C ht,run_getMap hb,hpre,Instr.findKey,run_underlying C hu',hfr,hzr]
    split at hs
    ·rename_i j x hf
     simp only[Option.some.injEq]at hs;subst hs
     rcases findKey_ok hD hkp es es'.toList 0 _ (by simpa using hl) (fun i x y hx hy=>hm i x y hx (by simpa using hy)) hf with⟨h1,_⟩|⟨j',q,v',y,h1,h2,h3,h4,h5,_⟩
     ·cases h1
     ·simp only[Option.some.injEq,Prod.mk.injEq]at h1
      obtain⟨rfl,rfl⟩:=h1
      refine⟨_,hrun _ h4,?_⟩
      cases ok
      ·exact .p h5
      ·refine .tup rfl ?_
       intro i x v hx hv
       match i with
       |0=>simp at hx hv;subst hx;subst hv;exact .p h5
       |1=>simp at hx hv;subst hx;subst hv;exact .p (.bool _)
       |n+2=>simp at hx
    ·rename_i hf
     simp only[Option.some.injEq]at hs;subst hs
     rcases findKey_ok hD hkp es es'.toList 0 _ (by simpa using hl) (fun i x y hx hy=>hm i x y hx (by simpa using hy)) hf with⟨_,h1⟩|⟨j',q,v',y,h1,_⟩
     ·refine⟨_,hrun _ h1,?_⟩
      cases ok
      ·exact .p (hpr _)
      ·refine .tup rfl ?_
       intro i x v hx hv
       match i with
       |0=>simp at hx hv;subst hx;subst hv;exact .p (hpr _)
       |1=>simp at hx hv;subst hx;subst hv;exact .p (.bool _)
       |n+2=>simp at hx
     ·cases h1
    ·cases hs
  ·cases hs
 ·cases hs
end
theorem Adv.freezeTo{E h w} (W:WR E h w) {i b n:Nat} {o:Ob} {vs:Array Value} {e:TypeId} {z:Nat×Nat} {w':World} (ha:E.a i (obGen (hget h i))=some (b,n)) (hs:(hget h i).soft=true)
  (hg:obGen o=obGen (hget h i)) (hso:o.soft=false) (hd:o.isDead=false) (hb:w'.heap[b]?=some (.cells vs e z)) (ho:OR (E.frz b vs) o b n w'.heap[b]?)
  (h1:w'.os=w.os) (h2:w'.tape=w.tape) (h3:w'.output=w.output) (h4:w'.heap.size=w.heap.size) (h5:∀ k,k ≠ b→w'.heap[k]?=w.heap[k]?) :
  Adv E h w (E.frz b vs) (hset h i o) w':=by
 have hi:i<h.length:=lt_of_hget (Ob.isDead_of_soft hs)
 have hfb:E.f b=none:=W.own i b n hi ha hs
 have hle:E.le (E.frz b vs):=Rn.le_frz hfb
 have hgen:∀ j,obGen (hget (hset h i o) j)=obGen (hget h j):=fun j=>by
  rw[hget_hset h i j o hi];split
  ·subst_vars;exact hg
  ·rfl
 have hdead:∀ j,(hget (hset h i o) j).isDead=false→(hget h j).isDead=false:=fun j hj=>by
  rw[hget_hset h i j o hi]at hj
  split at hj
  ·subst_vars;exact Ob.isDead_of_soft hs
  ·exact hj
 refine⟨hle,⟨fun i g b n hx=>by rw[h4];exact W.bnd i g b n hx,?_,?_,?_,?_,?_,?_,fun j g x hj hx=>by rw[hgen];exact W.cur j g x (by simpa using hj) hx⟩,⟨h1,h2,h3,by omega,?_⟩,?_,?_,by simp,?_⟩
 rotate_right 1
 ·intro j hj hn
  refine⟨?_,hn⟩
  rw[hget_hset h i j o hi,if_neg]
  intro e;subst e;rw[hn]at ha;cases ha
 ·intro k us hk
  have hk':(if k=b then some vs else E.f k)=some us:=hk
  split at hk'
  ·cases hk';subst_vars;exact⟨e,z,hb⟩
  ·rename_i hne;rw[h5 k hne];exact W.frz k us hk'
 ·intro j k m hj hab
  rw[hgen]at hab
  rw[hget_hset h i j o hi]
  split
  ·subst_vars;have:=ha.symm.trans hab;cases this;exact ho
  ·rename_i hne
   have hj':j<h.length:=by simpa using hj
   by_cases hd:(hget h j).isDead=true
   ·cases hx:hget h j<;>simp [hx,Ob.isDead]at hd
    exact .dead
   ·have hkb:k ≠ b:=fun e=>by
     subst e
     exact hne (W.inj j i k m n hj' hi hab ha (by simpa using hd) (Ob.isDead_of_soft hs))
    rw[h5 k hkb];exact(W.obj j k m hj' hab).mono hle
 ·intro j k m hj hab hsj
  rw[hgen]at hab
  rw[hget_hset h i j o hi]at hsj
  have hj':j<h.length:=by simpa using hj
  split at hsj
  ·rw[hso]at hsj;cases hsj
  ·rename_i hne
   show(if k=b then some vs else E.f k)=none
   have hkb:k ≠ b:=fun e=>by
    subst e
    exact hne (W.inj j i k m n hj' hi hab ha (Ob.isDead_of_soft hsj) (Ob.isDead_of_soft hs))
   rw[if_neg hkb]
   exact W.own j k m hj' hab hsj
 ·intro j l k m m' hj hl hab hbb hd1 hd2
  rw[hgen]at hab hbb
  exact W.inj j l k m m' (by simpa using hj) (by simpa using hl) hab hbb (hdead j hd1) (hdead l hd2)
 ·intro j g hj hlt
  rw[hgen]at hlt
  exact W.old j g (by simpa using hj) hlt
 ·intro j g hj
  exact W.new j g (by simpa using hj)
 ·intro k hk hno
  refine h5 k fun e=>?_
  subst e
  exact hno i n hi hs ha
 ·intro j k m hj hsj haj _
  rw[hget_hset h i j o hi]at hsj haj ⊢
  by_cases e:j=i
  ·subst e;rw[if_pos rfl,hg]at haj;exact⟨_,_,hi,Ob.isDead_of_soft hs,haj,fun _=>hs⟩
  ·rw[if_neg e]at haj hsj ⊢;exact⟨j,m,by simpa using hj,hsj,haj,id⟩
 ·intro k us h1 h2 _
  have h1':(if k=b then some vs else E.f k)=some us:=h1
  split at h1'
  ·subst_vars;exact⟨i,n,hi,hs,ha⟩
  ·rw[h1']at h2;cases h2
section
variable {c:Ctx} {P:Program} {E:Rn} {h:List Ob} {w:World}
theorem run_loadBytes{b:Nat}:∀ (ns:List Int) (o:Nat) (acc:ByteArray),(∀ (j:Nat) v,(ns.map (Value.int .u8))[j]?=some v→w.cell? ⟨b,o+j,none⟩=some v) →
  ∃ s,(loadBytes ⟨b,o,none⟩ acc ns.length).run P w=.ok s w∧s.data.toList=acc.data.toList++ns.map (fun n=>UInt8.ofNat n.toNat)
 | [],o,acc,_=>⟨acc,rfl,by simp⟩
 |n::ns,o,acc,hc=>by
  obtain⟨s,h1,h2⟩:=run_loadBytes ns (o+1) (acc.push n.toNat.toUInt8) (fun j v hv=>by
   have:=hc (j+1) v (by simpa using hv)
   rwa[show o+1+j=o+(j+1) by omega])
  have h0:=hc 0 _ rfl
  refine⟨s,?_,?_⟩
  ·simp only[List.length_cons,loadBytes,Sem.run_bind,run_load]
   rw[show(⟨b,o,none⟩:Addr)=⟨b,o+0,none⟩from rfl,h0]
   simp only[Result.andThen_ok,addr_add,Nat.add_zero]
   exact h1
  ·rw[h2];simp [ByteArray.push]
theorem unsafeString_eq (pt xt : TypeId) (ty : TypeId) (p : Option Addr) (nv : Value) : Builtin.unsafeString_ #[pt, xt] ty #[.pointer p, nv] = (do
  let n ← asInt nv
  if n<0 then runtimePanic (.error "unsafe.String: len out of range")
  if n > IntKind.i64.max then unsupported (.unsafePointer "String: a length above the largest int")
  match p with
  |none=>
   if n=0 then pure (.string .empty)
   else runtimePanic (.error "unsafe.String: ptr is nil and len is not zero")
  |some a=>
   if n=0 then pure (.string .empty)
   else if ← variablesAt a (← elemOf pt) n.toNat then do
    let s ← loadBytes a .empty n.toNat
    freeze a n.toNat
    pure (.string s)
   else unsupported (.unsafePointer "String: not so many bytes at ptr")):=rfl
theorem shp1{X v} (hv:VR E X v) (hs:shp X=1):∃ p,v=.pointer p:=by
 cases hv with
 |p hp=>cases hp<;>simp_all [shp]
 |full hp hc=>simp [shp]at hs
 |_=>simp_all [shp]
theorem i64max:IntKind.i64.max=9223372036854775807:=rfl
theorem isOne_ok(C:CtxOk c P) {t} (h:isOne c t=true):P.cellsOf t=1:=by
 unfold isOne sizeOf? at h
 cases hi:c.info t with
 |none=>simp [hi]at h
 |some i=>
  simp only[hi,Nat.beq_eq]at h
  simp [Program.cellsOf,C.info _ _ hi,h]
theorem ustring_ok(C:CtxOk c P) (W:WR E h w) {pt u xt ty X N v nv} (hp:c.under pt=some (.pointer u)) (hv:VR E X v) (hn:VR E N nv) :
  SemV P E h w (ustring c h u X N) (Builtin.unsafeString_ #[pt,xt] ty #[v,nv]):=by
 refine onI_ok hn fun k n hk=>?_
 subst hk
 split
 ·rename_i m
  split
  ·cases hb:Nat.beq (shp X) 1 with
   |false=>exact .no
   |true=>
    obtain⟨p,rfl⟩:=shp1 hv (Nat.eq_of_beq_eq_true hb)
    refine .w W (v:=.string .empty) ?_ (.p (.str _ _ rfl))
    rw[unsafeString_eq]
    cases p<;>simp [asInt,asIntOf]
  ·rename_i n
   split
   ·rename_i i g sz k o
    split
    ·rename_i el sz' xs ex g' ho
     cases hb:(Nat.beq g g'&&Nat.beq sz 1&&Nat.beq sz' 1&&Nat.beq o 0&&c.same el u&&isOne c el&&Nat.ble (n+1) 9223372036854775807)with
     |false=>exact .no
     |true=>
      simp only[Bool.and_eq_true,Nat.beq_eq]at hb
      obtain⟨⟨⟨⟨⟨⟨rfl,rfl⟩,rfl⟩,rfl⟩,hsame⟩,hone⟩,hmx⟩:=hb
      have hmx:=Nat.le_of_ble_eq_true hmx
      simp only[cond]
      split
      ·rename_i m hm
       obtain⟨hle,rfl⟩:=sub?_some hm
       split
       ·rename_i b hbytes
        simp only[lnf_eq]
        intro _
        cases hv with
        | @el _ _ _ _ _ blk nn ha=>
        obtain⟨vs,z,hblk,hvs,hz,h0,hxn,hex,hel⟩:=row_lies W ho ha
        -- the bytes
        obtain ⟨cs, c1, c2, c3, c4⟩ := list_of_elems (hel.drop k (n + 1))
        have hcl:((xs.drop k).take (n+1)).length=n+1:=by simp;omega
        obtain⟨ns,rfl,rfl⟩:=bytes_of_elems _ b cs hbytes c1 c4
        have hnl:ns.length=n+1:=by simpa [hcl]using c1
        obtain⟨s,l1,l2⟩:=run_loadBytes (P:=P) (w:=w) (b:=blk) ns k .empty (fun j v hv=>by
         rw[cell_cells hblk]
         have:=c2 j v hv
         simpa using this)
        rw[hnl]at l1
        -- what is marked
        have hfz:∃ z',(w.freeze ⟨blk,k,none⟩ (n+1)).heap[blk]?=some (.cells vs el z'):=by
         simp only[World.freeze,Nat.add_one_ne_zero,if_false,Array.getElem?_modify,hblk,if_true,Option.map_some]
         exact⟨_,rfl⟩
        obtain⟨z',hz'⟩:=hfz
        have hle':E.le (E.frz blk vs):=Rn.le_frz (W.own i blk nn (lt_of_hget (by rw[ho];rfl)) (by rw[ho];exact ha) (by rw[ho];rfl))
        have hcell:∀ o v,vs[o]?=some v→cellF (E.frz blk vs).f blk o=some v:=fun o v hv=>by
         simp [cellF,Rn.frz,hv]
        have A:Adv E h w (E.frz blk vs) (hset h i (.fr 1 xs g)) (w.freeze ⟨blk,k,none⟩ (n+1)):=by
         refine Adv.freezeTo W (by rw[ho];exact ha) (by rw[ho];rfl) (by rw[ho];rfl) rfl rfl hz' (.fr h0 hxn (hel.mono hle'.f hcell)) ?_ ?_ ?_ ?_ ?_
         ·simp [World.freeze]
         ·simp [World.freeze]
         ·simp [World.freeze]
         ·simp [World.freeze]
         ·intro j hj;simp [World.freeze,Array.getElem?_modify,Ne.symm hj]
        refine⟨.string s,_,?_,_,A,.p (.str _ _ (by rw[l2];rfl))⟩
        have hn1:¬ ((Int.ofNat (n+1))<0):=by simp;omega
        have hvar:(variablesAt ⟨blk,k,none⟩ u (n+1)).run P w=.ok true w:=by
         have hsh:w.shape? blk=some (el,vs.size):=by simp [World.shape?,hblk]
         have hs1:P.cellsOf el=1:=isOne_ok C hone
         have hlies:liesAt P P.depth el (vs.size / P.cellsOf el) k u (n+1)=true:=by
          have hsm:=C.same _ _ hsame
          cases hd:P.depth with
          |zero=>rw[hd]at hsm;simp [sameLayout]at hsm
          |succ d=>
           unfold liesAt
           rw[hd]
           unfold Go.rowAt
           rw[hd]at hsm
           simp only[hs1,Nat.div_one,Nat.mod_one,hsm]
           have:k+(n+1)≤vs.size:=by omega
           simp [this]
         simp [variablesAt,hsh,hlies]
        have hmax:¬ (Int.ofNat (n+1) > IntKind.i64.max):=by
         rw[i64max];simp only[Int.ofNat_eq_natCast];omega
        have hel1:(elemOf pt).run P w=.ok u w:=by simp [elemOf,run_underlying C hp]
        rw[unsafeString_eq]
        simp only[Sem.run_bind,asInt,asIntOf,Sem.run_pure,Result.andThen_ok,if_neg hn1,if_neg hmax]
        rw[if_neg (show ¬ (Int.ofNat (n+1)=0) by simp;omega)]
        simp only[Sem.run_bind,hel1,Result.andThen_ok,show k*1+0=k by omega,show(Int.ofNat (n+1)).toNat=n+1 from rfl,hvar,if_true,l1,run_freeze,Sem.run_pure]
       ·exact .no
      ·exact .no
    ·exact .no
   ·exact .no
 ·exact .no
end
section
variable {c:Ctx} {P:Program} {E:Rn} {h:List Ob} {w:World}
theorem mapSet_ok(C:CtxOk c P) (W:WR E h w) {i b n:Nat} {kt:TypeId} {k x:PV} {kv xv:Value} {mt e:TypeId} (hm:c.under mt=some (.map kt e)) (hk:keyOk c kt k=true) (ha:E.a i 0=some (b,n)) (hkv:PR E.f k kv) (hxv:PR E.f x xv) :
  SemU P E h w (mapSet h i k x) (Instr.mapUpdate mt (.map (some b)) kv xv):=by
 unfold mapSet
 split
 ·rename_i es ho
  obtain⟨es',clock,hb,hl,hmm,hcl,hbo⟩:=map_lies W ho ha
  have hD:∃ D,c.under kt=some D∧((∃ j a,D=.int j∧k=.int j a)∨(∃ s,D=.string∧k=.str s)):=by
   rcases keyOk_ok hk with⟨j,a,h1,h2⟩|⟨s,h1,h2⟩
   ·exact⟨_,h1,.inl ⟨j,a,rfl,h2⟩⟩
   ·exact⟨_,h1,.inr ⟨s,rfl,h2⟩⟩
  obtain⟨D,hu',hD⟩:=hD
  have hD':(∃ j,D=.int j)∨D=.string:=by
   rcases hD with⟨j,a,h1,_⟩|⟨s,h1,_⟩
   ·exact .inl ⟨j,h1⟩
   ·exact .inr h1
  have hpre:(Instr.checkKey false 10000 kt kv).run P w=.ok () w:=run_checkKey (n:=9999) C hu' hD'
  have hsetr:∀ o,(setObj b o).run P w=.ok () {w with heap:=w.heap.setIfInBounds b o}:=fun o=>by simp [setObj,Sem.run,hb]
  have hlt:b<w.heap.size:=W.bnd _ _ _ _ ha
  have adv:∀ (es2:List (PV×PV)) (es2':Array MapEntry) (cl:Nat),es2.length=es2'.size→(cl=es2'.size∧∀ (i:Nat) (y:MapEntry),es2'[i]?=some y→y.born=i)→(∀ (i:Nat) (x:PV×PV) (y:MapEntry),es2[i]?=some x→es2'[i]?=some y→PR E.f x.1 y.key∧PR E.f x.2 y.val) →
    Adv E h w E (hset h i (.map es2)) {w with heap:=w.heap.setIfInBounds b (.map es2' cl)}:=by
   intro es2 es2' cl h1 hk h2
   refine Adv.set W (by rw[ho];exact ha) (by rw[ho]<;>rfl) (by rw[ho]<;>rfl) rfl ?_ rfl rfl rfl (by simp) ?_
   ·show OR E _ b n (w.heap.setIfInBounds b _)[b]?
    rw[Array.getElem?_setIfInBounds_self_of_lt hlt]
    exact .map h1 hk h2
   ·intro k hk
    show(w.heap.setIfInBounds b _)[k]?=_
    rw[Array.getElem?_setIfInBounds_ne (Ne.symm hk)]
  split
  ·rename_i j v0 hf
   split
   ·rename_i q v1 hj
    rcases findKey_ok hD hkv es es'.toList 0 _ (by simpa using hl) (fun i x y hx hy=>hmm i x y hx (by simpa using hy)) hf with⟨h1,_⟩|⟨j',q',v',y,h1,h2,h3,h4,h5,h6,h7⟩
    ·cases h1
    ·simp only[Option.some.injEq,Prod.mk.injEq]at h1
     obtain⟨rfl,rfl⟩:=h1
     rw[show 0+j'=j' by omega]at *
     rw[h2]at hj
     simp only[Option.some.injEq,Prod.mk.injEq]at hj
     obtain⟨rfl,_⟩:=hj
     subst h6
     simp only[lnf_eq,hsetK_eq]
     intro _
     have hy:es'[j']?=some y:=by simpa using h3
     refine⟨_,?_,E,adv (es.set j' (k,x)) (es'.modify j' fun e=>{e with key:=kv,val:=xv}) clock ?_ ?_ ?_,.tup rfl (by simp)⟩
     ·have hk0:(Instr.keyThatStays y.key kv).run P w=.ok kv w:=by
       simp [Instr.keyThatStays,h7 9999]
      simp [Instr.mapUpdate,run_underlying C hm,run_getMap hb,hpre,Instr.findKey,run_underlying C hu',h4,hy,hk0,hsetr]
     ·simp [hl]
     ·refine⟨by simp [hcl],fun i2 y2 hy2=>?_⟩
      rw[Array.getElem?_modify]at hy2
      split at hy2
      ·rename_i hij
       subst hij
       simp only[hy,Option.map_some,Option.some.injEq]at hy2
       subst hy2
       exact hbo _ y hy
      ·exact hbo _ _ hy2
     ·intro i2 x2 y2 hx2 hy2
      rw[List.getElem?_set]at hx2
      rw[Array.getElem?_modify]at hy2
      split at hx2
      ·rename_i hij
       subst hij
       simp only[if_true,hy,Option.map_some,Option.some.injEq]at hy2
       split at hx2
       ·simp only[Option.some.injEq]at hx2
        subst hx2;subst hy2
        exact⟨hkv,hxv⟩
       ·cases hx2
      ·rename_i hij
       rw[if_neg hij]at hy2
       exact hmm i2 x2 y2 hx2 hy2
   ·exact .no
  ·rename_i hf
   rcases findKey_ok hD hkv es es'.toList 0 _ (by simpa using hl) (fun i x y hx hy=>hmm i x y hx (by simpa using hy)) hf with⟨_,h1⟩|⟨j',q',v',y,h1,_⟩
   ·simp only[lnf_eq,hsetK_eq]
    intro _
    refine⟨_,?_,E,adv (es++[(k,x)]) (es'.push {key:=kv,val:=xv,born:=clock}) (clock+1) ?_ ?_ ?_,.tup rfl (by simp)⟩
    ·simp [Instr.mapUpdate,run_underlying C hm,run_getMap hb,hpre,Instr.findKey,run_underlying C hu',h1,hsetr]
    ·simp [hl]
    ·refine⟨by simp [hcl],fun i2 y2 hy2=>?_⟩
     rw[Array.getElem?_push]at hy2
     split at hy2
     ·rename_i hi2
      simp only[Option.some.injEq]at hy2
      subst hy2
      show clock=i2
      omega
     ·exact hbo _ _ hy2
    ·intro i2 x2 y2 hx2 hy2
     rw[Array.getElem?_push]at hy2
     by_cases hi:i2<es.length
     ·rw[List.getElem?_append_left hi]at hx2
      rw[if_neg (by omega)]at hy2
      exact hmm i2 x2 y2 hx2 hy2
     ·rw[List.getElem?_append_right (by omega)]at hx2
      have hi2:i2=es.length:=by
       have:=(List.getElem?_eq_some_iff.1 hx2).1
       simp at this;omega
      subst hi2
      simp at hx2
      rw[if_pos hl]at hy2
      simp only[Option.some.injEq]at hy2
      subst hx2;subst hy2
      exact⟨hkv,hxv⟩
   ·cases h1
  ·exact .no
 ·exact .no
theorem mapUpdate_ok(C:CtxOk c P) (W:WR E h w) {t M K X m k x} (hm:VR E M m) (hk:VR E K k) (hx:VR E X x):SemU P E h w (mapUpdate? c h t M K X) (Instr.mapUpdate t m k x):=by
 unfold mapUpdate?
 split
 ·rename_i kt e i k' ht
  cases hkk:keyOk c kt k' with
  |false=>exact .no
  |true=>
   simp only[cond]
   split
   ·rename_i q h1 hp
    obtain⟨E1,A1,hq⟩:=pure1_ok (P:=P) X E h q h1 x W hx hp
    have hm1:=hm.mono A1.le
    cases hm1 with
    | @map _ b n ha=>
    intro hno
    have hk1:=(hk.mono A1.le).p_inv
    obtain⟨w',hr,E2,A2,hv⟩:=mapSet_ok C A1.wr ht hkk ha hk1 hq hno
    refine⟨w',hr,E2,?_,hv⟩
    -- the memory is named in full
    have:VH.heap h (mapSet h1 i k' q)=VH.heap h1 (mapSet h1 i k' q):=by
     unfold mapSet at hno ⊢
     split at hno<;>rename_i ho
     ·split at hno<;>rename_i hf
      ·split at hno<;>rename_i hj
       ·simp [ho,hf,hj,VH.heap]
       ·simp [VH.isNo]at hno
      ·simp [ho,hf,VH.heap]
      ·simp [VH.isNo]at hno
     ·simp [VH.isNo]at hno
    rw[this]
    exact A1.trans A2
   ·exact .no
 ·exact .no
end
section
variable {c:Ctx} {P:Program} {E:Rn} {h:List Ob} {w:World}
def SemN(P:Program) (E:Rn) (h:List Ob) (w:World) (vh:VH) (s:Sem Next):Prop:=
 vh.isNo=false→∃ nx w',s.run P w=.ok nx w'∧((∃ v,nx=.value v∧VP E h w vh v w')∨(nx=.skip∧VP E h w vh undef w'))
theorem SemN.ofV{vh s} (hs:SemV P E h w vh s):SemN P E h w vh (do pure (.value (← s))):=by
 intro hn
 obtain⟨v,w',h1,h2⟩:=hs hn
 exact⟨.value v,w',by simp only[Sem.run_bind,h1,Result.andThen_ok,Sem.run_pure],.inl ⟨v,rfl,h2⟩⟩
theorem SemN.ofU{vh s} (hs:SemU P E h w vh s):SemN P E h w vh (do s;pure .skip):=by
 intro hn
 obtain⟨w',h1,h2⟩:=hs hn
 exact⟨.skip,w',by simp only[Sem.run_bind,h1,Result.andThen_ok,Sem.run_pure],.inr ⟨rfl,h2⟩⟩
theorem SemN.no{s}:SemN P E h w .no s:=fun hn=>by simp [VH.isNo]at hn
theorem mkFace_ok(C:CtxOk c P) {ty X v a} (hv:VR E X v) (hs:mkFace c ty X=some a):∃ u,(Instr.makeInterface ty v).run P w=.ok u w∧VR E a u:=by
 unfold mkFace at hs
 split at hs
 ·cases hs
 ·rename_i d hne hd
  have hrun:(Instr.makeInterface ty v).run P w=.ok (.iface ty v) w:=by
   simp only[Instr.makeInterface,Sem.run_bind,run_underlying C hd,Result.andThen_ok]
   cases d<;>first|rfl|exact absurd hd (hne _)
  refine⟨_,hrun,?_⟩
  split at hs
  ·cases hs
  ·simp only[Option.some.injEq]at hs;subst hs;exact .p (.face hv.p_inv)
  ·simp only[Option.some.injEq]at hs;subst hs;exact .face hv
 ·cases hs
theorem VR.pair{X v b} (hv:VR E X v):VR E (.tup [X,.p (.bool b)]) (.tuple #[v,.bool b]):=by
 refine .tup rfl ?_
 intro i x u hx hu
 match i with
 |0=>simp at hx hu;subst hx;subst hu;exact hv
 |1=>simp at hx hu;subst hx;subst hu;exact .p (.bool _)
 |n+2=>simp at hx
theorem assertT_ok(C:CtxOk c P) {xt ty ok ty' X v a d} (hd:c.under ty=some d) (hne:∀ ms,d ≠ .interface ms) (hv:VR E X v) (hs:assertT c ty ok ty' X=some a) :
  ∃ u,(Instr.typeAssert (.iface ty' v) xt ty ok).run P w=.ok u w∧VR E a u:=by
 unfold assertT at hs
 have hrun : (Instr.typeAssert (.iface ty' v) xt ty ok).run P w = (if ty' = ty then (pure (if ok then .tuple #[v, .bool true] else v) : Sem Value) else
   (if ok=true then(do pure (.tuple #[← zeroValue ty,.bool false]))else runtimePanic (.typeAssertion (some xt) (some ty') ty ""))).run P w:=by
  simp only[Instr.typeAssert,Sem.run_bind,run_underlying C hd,Result.andThen_ok]
 rw[hrun]
 cases hb:Nat.beq ty' ty with
 |true=>
  have he:ty'=ty:=Nat.eq_of_beq_eq_true hb
  subst he
  simp only[hb,cond,Option.some.injEq]at hs;subst hs
  rw[if_pos rfl]
  cases ok
  ·exact⟨v,rfl,hv⟩
  ·exact⟨_,rfl,hv.pair⟩
 |false=>
  have hne':¬ ty'=ty:=fun e=>by subst e;rw[Nat.beq_refl]at hb;cases hb
  simp only[hb,cond]at hs
  rw[if_neg hne']
  cases ok with
  |false=>simp at hs
  |true=>
   simp only[]at hs
   split at hs
   ·rename_i z hz
    simp only[Option.some.injEq]at hs;subst hs
    obtain⟨ti,zv,hi,hzv,hpr⟩:=zero_pr hz
    exact⟨.tuple #[zv,.bool false],by simp [run_zeroValue C hi hzv],(VR.p (hpr _)).pair⟩
   ·cases hs
theorem typeAssert_ok(C:CtxOk c P) {xt ty ok X v a} (hv:VR E X v) (hs:typeAssert? c ty ok X=some a):∃ u,(Instr.typeAssert v xt ty ok).run P w=.ok u w∧VR E a u:=by
 unfold typeAssert? at hs
 split at hs
 ·cases hs
 ·rename_i d hne hd
  have hne':∀ ms,d ≠ .interface ms:=fun ms e=>hne ms e
  split at hs
  ·split at hs
   ·rename_i ty' q
    have:=hv.p_inv
    cases this with
    |face hp=>exact assertT_ok C hd hne' (.p hp) hs
   ·cases hs
  ·rename_i ty' q
   cases hv with
   |face hp=>exact assertT_ok C hd hne' hp hs
  ·cases hs
 ·cases hs
theorem sdata_ok(W:WR E h w) {X v a ats ty} (hv:VR E X v) (hs:sdata X=some a):∃ u,(Builtin.unsafeSliceData_ ats ty #[v]).run P w=.ok u w∧VR E a u:=by
 unfold sdata at hs
 split at hs
 ·split at hs
  ·simp only[Option.some.injEq]at hs;subst hs
   have:=hv.p_inv;cases this
   exact⟨.pointer none,rfl,.p .nilp⟩
  ·cases hs
 ·rename_i i g sz off n
  split at hs
  ·cases hs
  ·rename_i hn
   simp only[Option.some.injEq]at hs;subst hs
   cases hv with
   | @sl _ _ _ _ _ b m cap ha hc hl h0=>
   refine⟨.pointer (some ⟨b,off*sz,none⟩),?_,.el (o:=0) ha⟩
   have hcap:cap ≠ 0:=by
    intro e
    have:n=0:=by omega
    exact hn this
   show((if cap ≠ 0 then pure (.pointer (some ⟨b,off*sz,none⟩))else _:Sem Value)).run P w=_
   rw[if_pos hcap];rfl
 ·cases hs
theorem mm_ok(W:WR E h w) {mx X Y v u ats ty} (hv:VR E X v) (hu:VR E Y u):SemV P E h w (mm mx X Y) (if mx then Builtin.max_ ats ty #[v,u]else Builtin.min_ ats ty #[v,u]):=by
 refine onKK_ok hv hu fun k a b h1 h2=>?_
 subst h1;subst h2
 cases mx
 ·refine .w W (v:=.int k (if b<a then b else a)) (run_min_int2 w ats ty k k a b) ?_
  simp only[cond,ltI_eq]
  by_cases hlt:b<a<;>simp [hlt]<;>exact .p (.int _ _)
 ·refine .w W (v:=.int k (if b > a then b else a)) (run_max_int2 w ats ty k k a b) ?_
  simp only[cond,ltI_eq]
  by_cases hlt:a<b<;>simp [hlt]<;>exact .p (.int _ _)
theorem alloc_ok(C:CtxOk c P) (W:WR E h w) {el z} (hz:zero? c el=some z):SemV P E h w (.wn (.ptr h.length 0) (.cells el (z.cells.map .p))) (Instr.alloc el true (.tuple #[])):=by
 obtain⟨ti,zv,hi,hzv,hpr⟩:=zero_pr hz
 intro _
 refine⟨.pointer (some ⟨w.heap.size,0,none⟩),{w with heap:=w.heap.push (.cells zv.cells el)},?_,_,Adv.push (n:=zv.cells.size) W rfl (.cells rfl (by intro o _;omega) (zero_cells hz hi hzv)),.ptr (Rn.put_self ..)⟩
 simp [Instr.alloc,run_zeroValue C hi hzv,newVar,Go.newRow]
theorem box_ok(W:WR E h w) {el X v cs} (hv:VR E X v) (hc:X.cells?=some cs):SemV P E h w (.wn (.ptr h.length 0) (.cells el cs)) (Instr.box el v):=by
 intro _
 refine⟨.pointer (some ⟨w.heap.size,0,none⟩),{w with heap:=w.heap.push (.cells v.cells el)},?_,_,Adv.push (n:=v.cells.size) W rfl (.cells rfl (by intro o _;omega) (cells_ok hv hc)),.ptr (Rn.put_self ..)⟩
 simp [Instr.box,newVar,Go.newRow]
theorem makeMap_ok(W:WR E h w) {t}:SemV P E h w (.wn (.map h.length) (.map [])) (Instr.makeMap t none):=by
 intro _
 exact⟨.map (some w.heap.size),{w with heap:=w.heap.push (.map #[] 0)},rfl,_,Adv.push (n:=0) W rfl (.map rfl ⟨rfl,by simp⟩ (by simp)),.map (Rn.put_self ..)⟩
theorem rangeV_ok(C:CtxOk c P) (W:WR E h w) {ty X x} (hv:VR E X x):SemV P E h w (rangeV c h ty X) (Instr.range ty x):=by
 unfold rangeV
 split
 ·rename_i k e hu
  split
  ·rename_i p
   split
   ·have:=hv.p_inv
    cases this
    simp only[forceN_eq]
    intro _
    refine⟨.pointer (some ⟨w.heap.size,0,none⟩),{w with heap:=w.heap.push (.mapIter none 0 #[] 0)},?_,_,Adv.push (n:=0) W rfl .iter0,.ptr (Rn.put_self ..)⟩
    simp [Instr.range,run_underlying C hu,newObj,Sem.run]
   ·exact .no
  ·rename_i i
   split
   ·rename_i es ho
    cases hv with
    | @map _ b n ha=>
    obtain⟨es',clock,hb,hl,_,hcl,_⟩:=map_lies W ho ha
    simp only[forceN_eq]
    intro _
    have hlt:b<w.heap.size:=W.bnd _ _ _ _ ha
    have hi:i<h.length:=lt_of_hget (by rw[ho];rfl)
    refine⟨.pointer (some ⟨w.heap.size,0,none⟩),{w with heap:=w.heap.push (.mapIter (some b) clock #[] clock)},?_,_,Adv.push (n:=0) W rfl ?_,.ptr (Rn.put_self ..)⟩
    ·simp [Instr.range,run_underlying C hu,run_getMap hb,newObj,Sem.run]
    ·rw[hl,← hcl]
     exact .iter (sn:=false) ha (by simp)
   ·exact .no
  ·exact .no
 ·exact .no
theorem nextV_ok(W:WR E h w) {X x ty} (hv:VR E X x):SemV P E h w (nextV h X) (Instr.next x false ty):=by
 unfold nextV
 split
 ·rename_i r o
  split
  ·cases hv with
   | @ptr _ _ b n ha=>
   split
   ·rename_i m k sn ho
    have hi:r<h.length:=lt_of_hget (by rw[ho];rfl)
    have hob:=W.obj r b n hi (by rw[ho];exact ha)
    rw[ho]at hob
    generalize hx:w.heap[b]?=x at hob
    have hg:∀ m k s l,w.heap[b]?=some (.mapIter m k s l)→(getObj b).run P w=.ok (.mapIter m k s l) w:=fun m k s l hy=>by simp [getObj,Sem.run,hy]
    split
    ·cases hob
     refine .w W (v:=.tuple #[.bool false]) ?_ (.tup rfl fun i y v h1 h2=>?_)
     ·simp [Instr.next,hg _ _ _ _ hx]
     ·cases i with
      |zero=>simp at h1 h2;subst h1;subst h2;exact .p (.bool _)
      |succ i=>simp at h1
    ·rename_i i
     split
     ·rename_i es hm
      cases hob with
      | @iter _ _ _ _ _ b' m' last h' hl'=>
      obtain⟨es',clock,hb,hl,hpr,hcl,hbo⟩:=map_lies W hm h'
      have over:VR E (.tup [.p (.bool false)]) (.tuple #[.bool false]):=.tup rfl fun i y v h1 h2=>by
       cases i with
       |zero=>simp at h1 h2;subst h1;subst h2;exact .p (.bool _)
       |succ i=>simp at h1
      have hmap:=run_getMap (P:=P) hb
      unfold nextMap
      split
      ·have he:es' = #[]:=by simpa using hl.symm
       subst he
       cases sn with
       |true=>exact .no
       |false=>
        refine .w W (v:=.tuple #[.bool false]) ?_ over
        simp [Instr.next,hg _ _ _ _ hx,hmap,Question.forced]
      ·rename_i q v l
       split
       ·obtain⟨y,he⟩:∃ y,es' = #[y]:=by
         have:es'.size=1:=by simpa using hl.symm
         exact Array.size_eq_one_iff.1 this
        subst he
        have hy0:=hbo 0 y rfl
        have hcl:clock=1:=hcl
        subst hcl
        cases sn with
        |true=>
         have:=hl' rfl
         subst this
         refine .w W (v:=.tuple #[.bool false]) ?_ over
         simp [Instr.next,hg _ _ _ _ hx,hmap,hy0,Question.forced]
        |false=>
         simp only[cond]
         cases hk:Nat.beq k 0 with
         |true=>exact .no
         |false=>
          have hk0:0<k:=by
           rcases Nat.eq_zero_or_pos k with e|e
           ·subst e;cases hk
           ·exact e
          intro _
          obtain⟨p1,p2⟩:=hpr 0 (q,v) y rfl rfl
          have hlt:b<w.heap.size:=W.bnd _ _ _ _ ha
          refine⟨.tuple #[.bool true,y.key,y.val],{w with heap:=w.heap.setIfInBounds b (.mapIter (some b') k #[0] 1)},?_,E,?_,.tup rfl fun i x v h1 h2=>?_⟩
          ·have e1:¬k=0:=by omega
           have e2:¬k≤y.born:=by omega
           simp [Instr.next,hg _ _ _ _ hx,hmap,hy0,hk0,Question.forced,List.filter,e1,e2]
           simp [setObj,Sem.run,hx]
          ·refine Adv.set W (by rw[ho];exact ha) (by rw[ho]<;>rfl) (by rw[ho]<;>rfl) rfl ?_ rfl rfl rfl (by simp) ?_
           ·show OR E _ b n (w.heap.setIfInBounds b _)[b]?
            rw[Array.getElem?_setIfInBounds_self_of_lt hlt]
            exact .iter (sn:=true) h' (fun _=>rfl)
           ·intro k hk
            show(w.heap.setIfInBounds b _)[k]?=_
            rw[Array.getElem?_setIfInBounds_ne (Ne.symm hk)]
          ·match i,h1,h2 with
           |0,h1,h2=>simp at h1 h2;subst h1;subst h2;exact .p (.bool _)
           |1,h1,h2=>simp at h1 h2;subst h1;subst h2;exact .p p1
           |2,h1,h2=>simp at h1 h2;subst h1;subst h2;exact .p p2
           |i+3,h1,h2=>simp at h1
       ·exact .no
     ·exact .no
   ·exact .no
  ·exact .no
 ·exact .no
theorem entryV_ok(W:WR E h w) {X x} (hv:VR E X x):SemV P E h w (entryV h X) (Instr.entry x):=by
 unfold entryV
 split
 ·rename_i r o
  split
  ·cases hv with
   | @ptr _ _ b n ha=>
   split
   ·rename_i m k sn ho
    have hi:r<h.length:=lt_of_hget (by rw[ho];rfl)
    have hob:=W.obj r b n hi (by rw[ho];exact ha)
    rw[ho]at hob
    generalize hx:w.heap[b]?=x at hob
    have hg:∀ m k s l,w.heap[b]?=some (.mapIter m k s l)→(getObj b).run P w=.ok (.mapIter m k s l) w:=fun m k s l hy=>by simp [getObj,Sem.run,hy]
    split
    ·exact .no
    ·rename_i i
     split
     ·rename_i es hm
      cases hob with
      | @iter _ _ _ _ _ b' m' last h' hl'=>
      obtain⟨es',clock,hb,hl,hpr,hcl,hbo⟩:=map_lies W hm h'
      have hmap:=run_getMap (P:=P) hb
      split
      ·exact .no
      ·rename_i q v l
       split
       ·obtain⟨y,he⟩:∃ y,es' = #[y]:=by
         have:es'.size=1:=by simpa using hl.symm
         exact Array.size_eq_one_iff.1 this
        subst he
        have hy0:=hbo 0 y rfl
        have hcl:clock=1:=hcl
        subst hcl
        cases sn with
        |false=>exact .no
        |true=>
         have:=hl' rfl
         subst this
         obtain⟨p1,p2⟩:=hpr 0 (q,v) y rfl rfl
         refine .w W (v:=.tuple #[y.key,y.val]) ?_ (.tup rfl fun i x v h1 h2=>?_)
         ·simp [Instr.entry,hg _ _ _ _ hx,hmap,hy0]
         ·match i,h1,h2 with
          |0,h1,h2=>simp at h1 h2;subst h1;subst h2;exact .p p1
          |1,h1,h2=>simp at h1 h2;subst h1;subst h2;exact .p p2
          |i+2,h1,h2=>simp at h1
       ·exact .no
     ·exact .no
   ·exact .no
  ·exact .no
 ·exact .no
theorem evs_ok{t} {a:Act} (hg:GR c E) (ht:TR E t a.tmps) (l:List Operand):LR E (evs c t l) (l.map a.eval):=by
 induction l with
 |nil=>exact⟨rfl,by simp [evs]⟩
 |cons x l ih=>
  refine⟨by simp [evs,ih.1],?_⟩
  intro i y v hy hv
  cases i with
  |zero=>simp [evs]at hy hv;subst hy;subst hv;exact ev_ok hg ht x
  |succ i=>exact ih.2 i y v (by simpa [evs]using hy) (by simpa using hv)
theorem evp_ok{t} {a:Act} (hg:GR c E) (ht:TR E t a.tmps) (l:List (Nat×Operand)):PL E (evp c t l) (l.map fun(i,x)=>(i,a.eval x)):=by
 induction l with
 |nil=>trivial
 |cons x l ih=>obtain⟨i,x⟩:=x;exact⟨rfl,ev_ok hg ht x,ih⟩
theorem evo_ok{t} {a:Act} (hg:GR c E) (ht:TR E t a.tmps) (o:Option Operand):OptR E (evo c t o) (o.map a.eval):=by
 cases o with
 |none=>trivial
 |some x=>exact ev_ok hg ht x
end
section
variable {c:Ctx} {P:Program} {E:Rn} {h:List Ob} {w:World}
theorem floatOf_some{X v k a} (hv:VR E X v) (hf:floatOf X=some (k,a)):v=.float k a:=by
  unfold floatOf at hf
  split at hf
  · split at hf
    · cases hf
      have:=hv.p_inv
      cases this;rfl
    · cases hf
  · cases hf
theorem fkn_inj{j k:FloatKind} (h:Nat.beq (fkn j) (fkn k)=true):j=k:=by
  have:=Nat.eq_of_beq_eq_true h
  cases j<;>cases k<;>first|rfl|(simp [fkn]at this)
theorem resF_ok(W:WR E h w) {k:FloatKind} {r:Option Nat} {s:Sem Value} (hs:∀ x,r=some x→s.run P w=.ok (.float k x) w):SemV P E h w (resF k r) s:=by
  unfold resF
  cases r with
  |none=>exact .no
  |some x=>simp only[forceN_eq];exact .w W (hs x rfl) (.p (.float k x))
theorem bin3_ok(C:CtxOk c P) (W:WR E h w) {op ty x y X Y v u} (hv:VR E X v) (hu:VR E Y u):SemV P E h w (bin3 op c ty (isConst x || isConst y) X Y) (binRun op ty x y v u):=by
  unfold bin3
  cases hx:floatOf X with
  |none=>exact bin_ok C W hv hu
  |some ja=>
    obtain⟨j,a⟩:=ja
    simp only
    cases hy:floatOf Y with
    |none=>exact .no
    |some kb=>
      obtain⟨k,b⟩:=kb
      simp only
      cases hk:Nat.beq (fkn j) (fkn k)with
      |false=>exact .no
      |true=>
        have hjk:=fkn_inj hk
        subst hjk
        have e1:=floatOf_some hv hx
        have e2:=floatOf_some hu hy
        subst e1;subst e2
        have hg:(eqGuard op ty x y (.float j a) (.float j b)).run P w=.ok () w:=by cases op<;>rfl
        have run:binRun op ty x y (.float j a) (.float j b)=(do eqGuard op ty x y (.float j a) (.float j b);binOp op ty (.float j a) (.float j b)):=rfl
        cases op<;>simp only[cond,binFl]<;>first
          |exact .no
          | (refine resF_ok W fun r hr => ?_
             rw[run]
             simp only[Sem.run_bind,hg,Result.andThen_ok]
             simp [binOp,Op.floatArith,hr])
          | (refine resB_ok W ?_
             rw[run]
             simp only[Sem.run_bind,hg,Result.andThen_ok]
             simp [binOp,Op.floatCmp])
theorem conv3_ok(C:CtxOk c P) (W:WR E h w) {src dst X v} (hv:VR E X v):SemV P E h w (conv3 c h src dst X) (convert src dst v):=by
  unfold conv3
  cases hx:floatOf X with
  |some ka=>
    obtain⟨k,a⟩:=ka
    simp only
    split
    · rename_i s d hs hd
      have e1:=floatOf_some hv hx
      subst e1
      unfold floatToI
      split
      · rename_i n hn
        cases hc:(decide (d.min≤n)&&decide (n≤d.max))with
        |false=>exact .no
        |true=>
          simp only[cond]
          refine resI_ok W ?_
          have h1:=C.under _ _ hs
          have h2:=C.under _ _ hd
          simp only[Bool.and_eq_true,decide_eq_true_eq]at hc
          unfold convert
          rw[Sem.run_bind,Go.run_underlying h1]
          simp only[Result.andThen_ok]
          rw[Sem.run_bind,Go.run_underlying h2]
          simp only[Result.andThen_ok]
          cases s<;>simp [Conv.floatToInt,hn,hc.1,hc.2]
      · exact .no
    · exact .no
  |none=>
    simp only
    split
    · rename_i s k hs hd
      split
      · rename_i p
        split
        · rename_i j n
          simp only[forceN_eq]
          have:=hv.p_inv
          cases this
          have h1:=C.under _ _ hs
          have h2:=C.under _ _ hd
          refine .w W ?_ (.p (.float k _))
          unfold convert
          rw[Sem.run_bind,Go.run_underlying h1]
          simp only[Result.andThen_ok]
          rw[Sem.run_bind,Go.run_underlying h2]
          simp only[Result.andThen_ok]
          cases s<;>simp [Conv.intToFloat]
        · exact .no
      · exact .no
    · exact conv_ok C W hv
theorem rowLen_ok (W : WR E h w) {X v r} (hv : VR E X v) (hr : rowLen h X = some r) :
    (r=none∧v=.slice none 0 0)∨∃ i len b off cap n vs e z,r=some (i,len)∧v=.slice (some ⟨b,off,none⟩) len cap∧(hget h i).soft=true∧E.a i (obGen (hget h i))=some (b,n)∧w.heap[b]?=some (.cells vs e z)∧vs.size=n∧(softR e z n∧e ≠ 5)∧off≤n:=by
  unfold rowLen at hr
  split at hr
  · split at hr
    · cases hr
      have:=hv.p_inv
      cases this
      exact .inl ⟨rfl,rfl⟩
    · cases hr
  · rename_i i g sz off len
    split at hr
    · rename_i e sz' xs ex g' ho
      cases hc:(Nat.beq g g'&&(Nat.beq sz sz'&&(Nat.ble (off+len) xs.length && !Nat.beq e 5)))with
      |false=>rw[hc]at hr;cases hr
      |true=>
        rw[hc]at hr
        cases hr
        simp only[Bool.and_eq_true,Nat.beq_eq,Bool.not_eq_true',]at hc
        obtain⟨rfl,rfl,_,h5⟩:=hc
        have h5:e ≠ 5:=fun q=>by subst q;cases h5
        cases hv with
        | @sl _ _ _ _ _ b n cap ha hcp hl hs=>
          have hg:obGen (hget h i)=g:=by rw[ho];rfl
          have hi:i<h.length:=lt_of_hget (by rw[ho];rfl)
          have hob:=W.obj i b n hi (by rw[hg];exact ha)
          rw[ho]at hob
          generalize hx:w.heap[b]?=x at hob
          cases hob with
          | @row _ _ _ _ _ _ _ vs z hsz hz h0 hn he hel=>
            refine .inr ⟨i,len,b,off*sz,cap,n,vs,e,z,rfl,rfl,by rw[ho];rfl,by rw[hg];exact ha,hx,hsz,⟨hz,h5⟩,?_⟩
            rw[← hcp]
            exact Nat.mul_le_mul_right _ (Nat.le_add_right _ _)
    · cases hr
  · cases hr
theorem run_overlaps_nil1 {t tR e : TypeId} {ps rs : Array TypeId} {sz la ca lb cb : Nat} {b : Option Addr} (hp : ps[0]? = some t) (ht : P.underlying t = some (.slice e)) (hz : ∀ w, (Go.sizeOf e).run P w = .ok sz w) (w : World) :
    (Extern.SlicesOverlaps.overlaps ps rs #[.slice none la ca,.slice b lb cb]).run P w=.ok (.bool false) w:=by
  change Sem.run P (α := Value) (do
    let some t:=ps[0]?|stuck "slices.overlaps: no parameter types"
    let .slice elem ← underlying t|stuck "slices.overlaps: slice type expected"
    let size ← sizeOf elem
    match(none:Option Addr),b with
    |some a,some b=>
      if la=0∨lb=0∨size=0 then pure (Value.bool false)
      else if a.block != b.block&&(← frozen a)&&(← frozen b)then unsupported .addressObserved
      else do
        if a.block != b.block then do
          noView a;noView b
          if ← mayBeOne a b then return Value.bool ((← choose (.extern "sameAddr.stringBytes" 2)) == 1)
        pure (Value.bool (a.block == b.block&&a.off<b.off+lb*size&&b.off<a.off+la*size))
    |_,_=>pure (Value.bool false)) w=_
  simp [hp,Go.run_underlying ht,hz]
theorem run_overlaps_nil2 {t tR e : TypeId} {ps rs : Array TypeId} {sz la ca lb cb : Nat} {a : Option Addr} (hp : ps[0]? = some t) (ht : P.underlying t = some (.slice e)) (hz : ∀ w, (Go.sizeOf e).run P w = .ok sz w) (w : World) :
    (Extern.SlicesOverlaps.overlaps ps rs #[.slice a la ca,.slice none lb cb]).run P w=.ok (.bool false) w:=by
  change Sem.run P (α := Value) (do
    let some t:=ps[0]?|stuck "slices.overlaps: no parameter types"
    let .slice elem ← underlying t|stuck "slices.overlaps: slice type expected"
    let size ← sizeOf elem
    match a,(none:Option Addr)with
    |some a,some b=>
      if la=0∨lb=0∨size=0 then pure (Value.bool false)
      else if a.block != b.block&&(← frozen a)&&(← frozen b)then unsupported .addressObserved
      else do
        if a.block != b.block then do
          noView a;noView b
          if ← mayBeOne a b then return Value.bool ((← choose (.extern "sameAddr.stringBytes" 2)) == 1)
        pure (Value.bool (a.block == b.block&&a.off<b.off+lb*size&&b.off<a.off+la*size))
    |_,_=>pure (Value.bool false)) w=_
  cases a<;>simp [hp,Go.run_underlying ht,hz]
theorem run_overlaps_two {t e : TypeId} {ps rs : Array TypeId} {size la ca lb cb : Nat} {a b : Addr} (hp : ps[0]? = some t) (ht : P.underlying t = some (.slice e)) (hz : ∀ w, (Go.sizeOf e).run P w = .ok size w) (w : World)
    (hne:a.block ≠ b.block) {tA tB:TypeId} {kA kB:Nat} (hsa:w.shape? a.block=some (tA,kA)) (hsb:w.shape? b.block=some (tB,kB))
    (hfa:w.frozen? a=false) (hfb:w.frozen? b=false) (hfe:w.frozen? {block:=a.block,off:=kA}=false) (hfe':w.frozen? {block:=b.block,off:=kB}=false) :
    (Extern.SlicesOverlaps.overlaps ps rs #[.slice (some a) la ca,.slice (some b) lb cb]).run P w=.ok (.bool false) w:=by
  have hnb:(a.block != b.block)=true:=by simpa using hne
  have hnb':(a.block == b.block)=false:=by simpa using hne
  change Sem.run P (α := Value) (do
    let some t:=ps[0]?|stuck "slices.overlaps: no parameter types"
    let .slice elem ← underlying t|stuck "slices.overlaps: slice type expected"
    let size ← sizeOf elem
    match(some a:Option Addr),(some b:Option Addr)with
    |some a,some b=>
      if la=0∨lb=0∨size=0 then pure (Value.bool false)
      else if a.block != b.block&&(← frozen a)&&(← frozen b)then unsupported .addressObserved
      else do
        if a.block != b.block then do
          noView a;noView b
          if ← mayBeOne a b then return Value.bool ((← choose (.extern "sameAddr.stringBytes" 2)) == 1)
        pure (Value.bool (a.block == b.block&&a.off<b.off+lb*size&&b.off<a.off+la*size))
    |_,_=>pure (Value.bool false)) w=_
  by_cases h0:la=0∨lb=0∨size=0
  · simp [hp,Go.run_underlying ht,hz,h0]
  · simp [hp,Go.run_underlying ht,hz,h0,hnb,hnb',frozen,noView,viewAt,mayBeOne,stringish,shape,Sem.run,hsa,hsb,hfa,hfe,hfb,hfe']
theorem frozen_soft{b off n:Nat} {vs:Array Value} {e:TypeId} {z:Nat×Nat} (hb:w.heap[b]?=some (.cells vs e z)) (hz:softR e z n∧e ≠ 5) (ho:off≤n):w.frozen? ⟨b,off,none⟩=false:=by
  have h1:=hz.1.2 hz.2
  have:¬(z.1≤off∧off<z.2):=by
    by_cases q:off<n
    · exact hz.1.1 off q
    · rw[show off=n by omega];exact h1
  simp only[World.frozen?,hb]
  simp
  omega
theorem extV_ok (C : CtxOk c P) (W : WR E h w) {f k args v} {vs : Array Value} (hk : c.ext f = some k) (hv : extV k h args = some v) (l : LR E args vs.toList) :
    ∃ x,(callFunc f vs).run P w=.ok (.value x) w∧VR E v x:=by
  obtain⟨fn,hf,h1,h2,h3,h4,h5⟩:=C.ext f k hk
  have key:∀ x,((k.entry fn) vs).run P w=.ok x w→VR E v x→∃ x,(callFunc f vs).run P w=.ok (.value x) w∧VR E v x:=by
    intro x hx hvx
    refine⟨x,?_,hvx⟩
    rw[run_callFunc_extern hf h1 h2 h3 h4,hx]
    rfl
  have one:∀ x,args=[x]→∃ y,vs = #[y]∧VR E x y:=by
    rintro x rfl
    obtain⟨y,hy⟩:∃ y,vs.toList=[y]:=by
      have:=l.1
      rcases hh:vs.toList with _|⟨y,_|⟨z,t⟩⟩
      · rw[hh]at this;simp at this
      · exact⟨y,rfl⟩
      · rw[hh]at this;simp at this
    refine⟨y,by rw[← Array.toArray_toList (xs:=vs),hy],?_⟩
    rw[hy]at l
    exact l.2 0 x y rfl rfl
  unfold extV at hv
  split at hv
  · rename_i x
    cases hv
    obtain⟨y,rfl,hy⟩:=one _ rfl
    exact key y rfl hy
  · rename_i x
    obtain⟨y,rfl,hy⟩:=one _ rfl
    split at hv
    · rename_i a hfl
      have:=floatOf_some hy hfl
      subst this
      split at hv
      · rename_i r hr
        simp only[forceN_eq,Option.some.injEq]at hv
        subst hv
        refine key (.float .f64 r) ?_ (.p (.float .f64 r))
        change Sem.run P (match FloatKind.f64.format.sqrt a with
          |some r=>(pure (Value.float .f64 r):Sem Value)
          |none=>(do pure (Value.float .f64 (← choose (.nanBits .f64 a a))))) w=_
        rw[hr]
        rfl
      · cases hv
    · cases hv
  · rename_i x
    obtain⟨y,rfl,hy⟩:=one _ rfl
    split at hv
    · rename_i a hfl
      have:=floatOf_some hy hfl
      subst this
      cases hv
      exact key (.int .u64 a) rfl (.p (.int .u64 _))
    · cases hv
  · rename_i x
    obtain⟨y,rfl,hy⟩:=one _ rfl
    split at hv
    · rename_i p
      have hp:=hy.p_inv
      split at hv
      · rename_i n
        simp only[forceN_eq,Option.some.injEq]at hv
        subst hv
        cases hp
        exact key (.float .f64 n.toNat) rfl (.p (.float .f64 _))
      · cases hv
    · cases hv
  · rename_i x y
    obtain⟨u1,u2,rfl⟩:∃ u1 u2,vs = #[u1,u2]:=by
      have:=l.1
      rcases hh:vs.toList with _|⟨u1,_|⟨u2,_|⟨u3,t⟩⟩⟩
      · rw[hh]at this;simp at this
      · rw[hh]at this;simp at this
      · exact⟨u1,u2,by rw[← Array.toArray_toList (xs:=vs),hh]⟩
      · rw[hh]at this;simp at this
    have l1:VR E x u1:=l.2 0 x u1 rfl rfl
    have l2:VR E y u2:=l.2 1 y u2 rfl rfl
    obtain⟨t,e,sz,q1,q2,q3⟩:=h5 rfl
    have q2':=C.under _ _ q2
    have q3':∀ w,(Go.sizeOf e).run P w=.ok sz w:=fun w=>run_sizeOf C q3 w
    unfold overlapsV at hv
    have res:v=.p (.bool false)→(Extern.SlicesOverlaps.overlaps fn.params fn.resultTypes #[u1,u2]).run P w=.ok (.bool false) w→∃ x,(callFunc f #[u1,u2]).run P w=.ok (.value x) w∧VR E v x:=by
      intro e1 e2
      subst e1
      exact key (.bool false) e2 (.p (.bool false))
    cases hr1:rowLen h x with
    |none=>rw[hr1]at hv;simp at hv
    |some r1=>
      cases hr2:rowLen h y with
      |none=>rw[hr1,hr2]at hv;cases r1<;>simp at hv
      |some r2=>
        rw[hr1,hr2]at hv
        rcases rowLen_ok W l1 hr1 with⟨rfl,rfl⟩|⟨i,len,b,off,cap,n,vs1,e1,z1,rfl,rfl,s1,a1,w1,n1,z1s,o1⟩
        · have hv':v=.p (.bool false):=by cases r2<;>simpa using hv.symm
          have:∃ bb lb cb,u2=.slice bb lb cb:=by
            rcases rowLen_ok W l2 hr2 with⟨rfl,rfl⟩|⟨i,len,b,off,cap,n,vs1,e1,z1,rfl,rfl,_⟩
            · exact⟨_,_,_,rfl⟩
            · exact⟨_,_,_,rfl⟩
          obtain⟨bb,lb,cb,rfl⟩:=this
          exact res hv' (run_overlaps_nil1 (tR:=t) q1 q2' q3' w)
        · rcases rowLen_ok W l2 hr2 with⟨rfl,rfl⟩|⟨j,len2,b2,off2,cap2,n2,vs2,e2,z2,rfl,rfl,s2,a2,w2,n2',z2s,o2⟩
          · exact res (by simpa using hv.symm) (run_overlaps_nil2 (tR:=t) q1 q2' q3' w)
          · simp only at hv
            cases hij:Nat.beq i j with
            |true=>rw[hij]at hv;cases hv
            |false=>
              rw[hij]at hv
              have hne:b ≠ b2:=by
                intro hh
                subst hh
                have:=W.inj i j b n n2 (lt_of_hget (Ob.isDead_of_soft s1)) (lt_of_hget (Ob.isDead_of_soft s2)) a1 a2 (Ob.isDead_of_soft s1) (Ob.isDead_of_soft s2)
                subst this
                simp at hij
              refine res (by simpa using hv.symm) (run_overlaps_two (tA:=e1) (tB:=e2) (kA:=n) (kB:=n2) q1 q2' q3' w hne ?_ ?_ ?_ ?_ ?_ ?_)
              · simp [World.shape?,w1,n1]
              · simp [World.shape?,w2,n2']
              · exact frozen_soft w1 z1s o1
              · exact frozen_soft w2 z2s o2
              · exact frozen_soft w1 z1s (Nat.le_refl _)
              · exact frozen_soft w2 z2s (Nat.le_refl _)
  · cases hv
end
end Go.Ai

/- What is proved: the interpreter's operations stand for the model's (append, copy, freezing). Conditions: as before. -/
import Derived.Test.YtepjcfcfpjhpgaaGreatDoorPA03
set_option linter.all false
namespace Go.Ai
open Go Go.RowKit
section
variable {c:Ctx} {P:Program} {E:Rn} {h:List Ob} {w:World}
theorem EL.slice_len{sz xs b len cap} (he:EL E w sz xs (.slice b len cap)):xs.length=len:=by
 cases he with
 |nil hx=>subst hx;rfl
 |row hc hel=>rfl
theorem EL.firstAll{sz xs v} (he:EL E w sz xs v) :
  ∃ cs:List Value,(Builtin.firstCells sz xs.length v).run P w=.ok cs.toArray w∧cs.length=xs.length*sz∧(∀ u∈cs,u.oneCell'=true)∧ElemsG E.f (fun o=>cs[o]?) 0 sz xs:=by
 obtain⟨cs,h1,h2,h3,h4⟩:=he.first (P:=P) xs.length (Nat.le_refl _)
 exact⟨cs,h1,h2,h3,by rwa[List.take_length]at h4⟩
theorem EL.drew{sz xs v} (he:EL E w sz xs v):EL E w.drew sz xs v:=by
 cases he with
 |nil hx=>exact .nil hx
 |row hc hel=>exact .row hc hel
 |str s h1 hx=>exact .str s h1 hx
theorem grow_run(C:CtxOk c P) {st xt el ty u base len cap sz} {old new:List PV} (hs:c.under st=some (.slice el)) (hx:sliceOrStr c xt) (hsz:sizeOf? c el=some sz)
  (h0:1≤sz) (ho:EL E w sz old (.slice base len cap)) (hn:EL E w sz new u) (hroom:room c el (len+new.length)=true) (hr:cap<len+new.length) :
  ∃ ns capN,(Builtin.append_ #[st,xt] ty #[.slice base len cap,u]).run P w=.ok (.slice (some ⟨w.heap.size,0,none⟩) (len+new.length) capN) {w with drawn:=w.drawn+1,heap:=w.heap.push (.cells ns el (0,0))} ∧
   capN*sz=ns.size∧len+new.length≤capN∧ElemsG E.f (fun o=>ns[o]?) 0 sz (old++new)∧(old++new).length*sz≤ns.size:=by
 obtain⟨ti,z,zv,hi,hz,hzv,hb,h1,hzl,hpr⟩:=room_some hroom
 have hti:ti.size=sz:=by simp [sizeOf?,hi]at hsz;exact hsz
 have hlo:=ho.slice_len
 obtain⟨os,o1,o2,o3,o4⟩:=ho.drew.firstAll (P:=P)
 obtain⟨ns,n1,n2,n3,n4⟩:=hn.drew.firstAll (P:=P)
 rw[hlo]at o1
 have hrun:=run_append_out C (ty:=ty) hs hx hi hti hzv hn.len o1 n1 hr hb h1
 have hcap:=grownCap_ge w (len+new.length) cap el
 obtain⟨z1,z2,z3,z4⟩:=zeros_ok (f:=E.f) (hpr _) (by rw[hzl,hti]) (by omega) (grownCap w (len+new.length) cap el-(len+new.length))
 refine⟨_,_,hrun,?_,hcap,?_,?_⟩
 ·have:(Builtin.zeroCells zv.cells (grownCap w (len+new.length) cap el-(len+new.length))).size=(grownCap w (len+new.length) cap el-(len+new.length))*sz:=by
   simp [Builtin.zeroCells,z1]
  simp only[Array.size_append,List.size_toArray,this,o2,n2,hlo]
  rw[← Nat.add_mul,← Nat.add_mul];congr 1;omega
 ·have:=ElemsG.app (rest:=(Builtin.zeroCells zv.cells (grownCap w (len+new.length) cap el-(len+new.length))).toList) o4 o2 n4
  intro i x hx
  obtain⟨a,b⟩:=this i x hx
  refine⟨a,fun j y hy=>?_⟩
  obtain⟨v,hv,hr⟩:=b j y hy
  refine⟨v,?_,hr⟩
  rw[← hv]
  show(os.toArray++(ns.toArray++Builtin.zeroCells zv.cells (grownCap w (len+new.length) cap el-(len+new.length))))[0+i*sz+j]?=(os++(ns++(Builtin.zeroCells zv.cells (grownCap w (len+new.length) cap el-(len+new.length))).toList))[0+i*sz+j]?
  rw[← Array.getElem?_toList]
  simp
 ·simp only[Array.size_append,List.size_toArray,o2,n2,List.length_append,Nat.add_mul]
  omega
theorem grow_ok(C:CtxOk c P) (W:WR E h w) {st xt el ty u base len cap sz} {old new:List PV} (hs:c.under st=some (.slice el)) (hx:sliceOrStr c xt) (hsz:sizeOf? c el=some sz)
  (h0:1≤sz) (ho:EL E w sz old (.slice base len cap)) (hn:EL E w sz new u) (hroom:room c el (len+new.length)=true) (hr:cap<len+new.length) :
  SemV P E h w (newRow h el sz (old++new) false (len+new.length)) (Builtin.append_ #[st,xt] ty #[.slice base len cap,u]):=by
 obtain⟨ns,capN,hrun,h1,h2,h3,h4⟩:=grow_run (ty:=ty) C hs hx hsz h0 ho hn hroom hr
 intro _
 exact⟨_,_,hrun,newRow_ok W (w.drawn+1) (by omega) h3 h4 (by simp) h1 (soft00 _ _) h2⟩
theorem appSl_ok(C:CtxOk c P) (W:WR E h w) {st xt el ty u sz i g off len v} {new:List PV} (hs:c.under st=some (.slice el)) (hx:sliceOrStr c xt) (hsz:sizeOf? c el=some sz)
  (h0:1≤sz) (hv:VR E (.sl i g sz off len) v) (hn:EL E w sz new u) (hroom:room c el (len+new.length)=true) :
  SemV P E h w (appSl h el i g sz off len new) (Builtin.append_ #[st,xt] ty #[v,u]):=by
 unfold appSl
 split
 ·rename_i e' sz' xs ex g' hob
  cases hb:(Nat.beq g g'&&Nat.beq sz sz')with
  |false=>exact .no
  |true=>
   simp only[Bool.and_eq_true,Nat.beq_eq]at hb
   obtain⟨rfl,rfl⟩:=hb
   simp only[cond]
   cases hv with
   | @sl _ _ _ _ _ b n cap ha hc hl hs0=>
   obtain⟨vs,z,hblk,hvs,hz,_,hxn,hex,hel⟩:=row_lies W hob ha
   obtain⟨ns,n1,n2,n3,n4⟩:=hn.firstAll (P:=P)
   cases h1:Nat.ble (off+len+new.length) xs.length with
   |true=>
    have hle:off+len+new.length≤xs.length:=Nat.le_of_ble_eq_true h1
    have hm:=Nat.mul_le_mul_right sz hle
    have hcap:len+new.length≤cap:=by
     have:(off+len+new.length)*sz≤(off+cap)*sz:=by omega
     have:=Nat.le_of_mul_le_mul_right this hs0
     omega
    simp only[]
    intro hno
    generalize hr:overK xs (off+len) new _ VH.no=r at hno ⊢
    have hne:r ≠ .no:=fun e=>by subst e;simp [VH.isNo]at hno
    obtain⟨_,rfl⟩:=overK_some hr hne
    obtain⟨w',hrun,A⟩:=rowOver_ok (P:=P) W hob ha hle n2 n3 n4
    refine⟨.slice (some ⟨b,off*sz,none⟩) (len+new.length) cap,w',?_,?_⟩
    ·rw[run_append_in C hs hx hsz hn.len n1 hcap]
     simp only[addr_add,← Nat.add_mul,hrun,Result.andThen_ok]
    ·simp only[forceN_eq]
     exact⟨E,A,.sl ha hc hcap hs0⟩
   |false=>
    have hle:¬ off+len+new.length≤xs.length:=fun hh=>by rw[Nat.ble_eq_true_of_le hh]at h1;cases h1
    simp only[]
    cases ex with
    |true=>
     simp only[]
     have hn':=hex rfl
     have hcap:off+cap=xs.length:=Nat.eq_of_mul_eq_mul_right hs0 (by omega)
     cases hsub:sub? xs off len with
     |none=>exact .no
     |some old=>
      obtain⟨hle2,rfl⟩:=sub?_some hsub
      have hlen:((xs.drop off).take len).length=len:=by simp;omega
      have ho:=EL.row (E:=E) (w:=w) (b:=b) (off:=off*sz) (cap:=cap) (sz:=sz) (xs:=(xs.drop off).take len) (by rw[hlen];exact hl)
       ((hel.drop off len).mono (fun _ _ h=>h) fun o v hv=>by rw[cell_cells hblk];exact hv)
      rw[hlen]at ho
      exact grow_ok C W hs hx hsz h0 ho hn hroom (by omega)
    |false=>
     simp only[]
     cases hc2:(Nat.beq off 0&&Nat.beq len xs.length&&Nat.beq e' el)with
     |false=>exact .no
     |true=>
      simp only[Bool.and_eq_true,Nat.beq_eq]at hc2
      obtain⟨⟨rfl,rfl⟩,rfl⟩:=hc2
      simp only[lnf_eq,forceN_eq]
      intro _
      have hcn:cap*sz=n:=by simpa using hc
      by_cases hcap:xs.length+new.length≤cap
      ·have hm:=Nat.mul_le_mul_right sz hcap
       rw[Nat.add_mul]at hm
       obtain⟨w',cur',hrun,k1,k2,k3,k4,k5,k6,k7⟩:=run_storeCells (P:=P) (b:=b) (o:=xs.length*sz) ns 0 vs w hblk (by rw[hvs];exact hz.1) (by omega) n3
       have hlen:cur'.size=vs.size:=by have:=congrArg List.length k2;simp at this;omega
       have hb:b<w.heap.size:=W.bnd i g b n ha
       have A:Adv E h w (E.put i (g+1) (b,n)) (hset h i (.row e' sz (xs++new) false (g+1))) w':=by
        refine Adv.move W (by rw[hob];exact ha) (by rw[hob];rfl) (by rw[hob];rfl) rfl rfl (.inl rfl) (by omega) ?_ k3 k4 k5 (by omega) (fun l hl hlb=>k7 l hlb)
        rw[k1]
        refine .row (by omega) hz hs0 (by simp only[List.length_append,Nat.add_mul];omega) (by simp) ?_
        have hel':=hel.mono (f':=(E.put i (g+1) (b,n)).f) (g':=fun o=>vs.toList[o]?) (fun _ _ h=>h) (fun o v hv=>by simpa using hv)
        have h1:=ElemsG.take hel' xs.length
        rw[List.take_length]at h1
        have h2:ElemsG E.f (fun o=>(vs.toList.take (xs.length*sz))[o]?) 0 sz xs:=by
         intro i x hx
         obtain⟨a,b⟩:=h1 i x hx
         refine⟨a,fun j y hy=>?_⟩
         obtain⟨v,hv,hr⟩:=b j y hy
         refine⟨v,?_,hr⟩
         have hi:i<xs.length:=(List.getElem?_eq_some_iff.1 hx).1
         have hj:j<sz:=by rw[← a];exact(List.getElem?_eq_some_iff.1 hy).1
         have:=Nat.mul_le_mul_right sz hi
         rw[Nat.succ_mul]at this
         show(vs.toList.take (xs.length*sz))[0+i*sz+j]?=_
         rw[List.getElem?_take,if_pos (by omega)];exact hv
        have h3:=ElemsG.app (rest:=vs.toList.drop (xs.length*sz+0+ns.length)) h2 (by simp;omega) n4
        have e1:(fun o:Nat=>cur'[o]?)=fun o:Nat=>(vs.toList.take (xs.length*sz)++(ns++vs.toList.drop (xs.length*sz+0+ns.length)))[o]?:=by
         funext o
         rw[← Array.getElem?_toList,k2];rfl
        rw[e1];exact h3
       refine⟨.slice (some ⟨b,0*sz,none⟩) (xs.length+new.length) cap,w',?_,_,A,.sl (Rn.put_self ..) hc hcap hs0⟩
       rw[run_append_in C hs hx hsz hn.len n1 hcap]
       simp only[addr_add,Nat.zero_mul,Nat.zero_add,hrun,Result.andThen_ok]
      ·have hlen:((xs.drop 0).take xs.length).length=xs.length:=by simp
       have ho:=EL.row (E:=E) (w:=w) (b:=b) (off:=0*sz) (cap:=cap) (sz:=sz) (xs:=(xs.drop 0).take xs.length) (by rw[hlen];exact hl)
        ((hel.drop 0 xs.length).mono (fun _ _ h=>h) fun o v hv=>by rw[cell_cells hblk];exact hv)
       rw[hlen]at ho
       rw[show(xs.drop 0).take xs.length=xs by simp]at ho
       obtain⟨ns',capN,hrun,g1,g2,g3,g4⟩:=grow_run (ty:=ty) C hs hx hsz h0 ho hn hroom (by omega)
       have A:Adv E h w (E.put i (g+1) (w.heap.size,ns'.size)) (hset h i (.row e' sz (xs++new) false (g+1))) {w with drawn:=w.drawn+1,heap:=w.heap.push (.cells ns' e' (0,0))}:=by
        refine Adv.move W (by rw[hob];exact ha) (by rw[hob];rfl) (by rw[hob];rfl) rfl rfl (.inr (Nat.le_refl _)) (by simp) ?_ rfl rfl rfl (by simp) (fun l hl hlb=>?_)
        ·simp only[Array.getElem?_push_size]
         exact .row rfl (soft00 _ _) hs0 g4 (by simp) g3
        ·show(w.heap.push _)[l]?=_
         rw[Array.getElem?_push,if_neg (by omega)]
       refine⟨_,_,hrun,_,A,?_⟩
       have:=VR.sl (E:=E.put i (g+1) (w.heap.size,ns'.size)) (i:=i) (g:=g+1) (sz:=sz) (off:=0) (len:=xs.length+new.length) (cap:=capN) (Rn.put_self ..) (by simpa using g1) g2 hs0
       show VR _ (.sl i (g+1) sz 0 (xs.length+new.length)) _
       simpa using this
 ·exact .no
theorem append_ok(C:CtxOk c P) (W:WR E h w) {st xt el ty X Y v u} (hs:c.under st=some (.slice el)) (hx:sliceOrStr c xt) (hv:VR E X v) (hu:VR E Y u) :
  SemV P E h w (append? c h el X Y) (Builtin.append_ #[st,xt] ty #[v,u]):=by
 unfold append?
 split
 ·rename_i sz new hsz hel
  cases hb:(Nat.ble 1 sz&&szIsB sz Y)with
  |false=>exact .no
  |true=>
   simp only[Bool.and_eq_true,Nat.ble_eq]at hb
   obtain⟨h0,hB⟩:=hb
   simp only[cond]
   have hn:=elems_ok W h0 hu hel hB
   obtain⟨ns,n1,n2,n3,n4⟩:=hn.firstAll (P:=P)
   split
   ·split
    ·have:=hv.p_inv;cases this
     split
     ·refine .w W ?_ hv
      have hns:ns=[]:=by cases ns<;>simp_all
      subst hns
      rw[run_append_in C hs hx hsz hn.len n1 (by simp)]
      rfl
     ·rename_i hne
      cases hr:room c el new.length with
      |false=>exact .no
      |true=>
       have:=grow_ok (ty:=ty) C W (base:=none) (len:=0) (cap:=0) (old:=[]) hs hx hsz h0 (.nil rfl) hn (by simpa using hr) (by
        cases new with
        |nil=>exact absurd rfl hne
        |cons x l=>simp)
       simpa using this
    ·exact .no
   ·rename_i sz' xs
    cases hb:Nat.beq sz sz' with
    |false=>exact .no
    |true=>
     have:=Nat.eq_of_beq_eq_true hb
     subst this
     simp only[cond]
     cases hv with
     |full hp hc=>
     have ho:=EL.vec W h0 hp
     obtain⟨b,off,cap,rfl,hcl,_⟩:=hp.elems (.inl h0)
     have hcc:=hc _ _ _ rfl
     subst hcc
     split
     ·refine .w W ?_ (.full hp hc)
      have hns:ns=[]:=by cases ns<;>simp_all
      subst hns
      rw[run_append_in C hs hx hsz hn.len n1 (by simp)]
      rfl
     ·rename_i hne
      cases hr:room c el (xs.length+new.length)with
      |false=>exact .no
      |true=>exact grow_ok C W hs hx hsz h0 ho hn hr (by
        cases new with
        |nil=>exact absurd rfl hne
        |cons x l=>simp)
   ·rename_i i g sz' off len
    cases hb:(Nat.beq sz sz'&&room c el (len+new.length))with
    |false=>exact .no
    |true=>
     simp only[Bool.and_eq_true,Nat.beq_eq]at hb
     obtain⟨rfl,hroom⟩:=hb
     exact appSl_ok C W hs hx hsz h0 hv hn hroom
   ·exact .no
 ·exact .no
end
section
variable {c:Ctx} {P:Program} {E:Rn} {h:List Ob} {w:World}
theorem allFit_ok{a sz}:∀ {l:List PV},allFit a sz l=true→∀ x∈l,fitsA a sz x=true
 | [],_,x,hx=>by simp at hx
 |v::l,hl,x,hx=>by
  unfold allFit at hl
  cases hf:fitsA a sz v with
  |false=>simp [hf]at hl
  |true=>
   simp only[hf,cond]at hl
   rcases List.mem_cons.1 hx with rfl|hx
   ·exact hf
   ·exact allFit_ok hl x hx
theorem fitsA_single{sz x} (hf:fitsA false sz x=true):x.cells=[x]:=by
 unfold fitsA at hf
 cases x<;>first|rfl|(simp at hf)
theorem run_copy(C:CtxOk c P) {dt xt ty e sz u m base dLen dCap} {cs:List Value} (hd:c.under dt=some (.slice e)) (hs:sizeOf? c e=some sz)
  (hl:(Builtin.lenOf u).run P w=.ok m w) (hf:(Builtin.firstCells sz (Nat.min m dLen) u).run P w=.ok cs.toArray w) :
  (Builtin.copy_ #[dt,xt] ty #[.slice base dLen dCap,u]).run P w =
   ((match base with|some a=>storeCells a cs|none=>pure ()).run P w).andThen fun _ w'=>.ok (.int .i64 (Nat.min m dLen:Nat)) w':=by
 simp [Builtin.copy_,run_underlying C hd,run_sizeOf C hs,hl,hf,goInt]
 cases base<;>simp [Result.andThen]
theorem copy_ok(C:CtxOk c P) (W:WR E h w) {dt xt ty e sz X Y v u} (hd:c.under dt=some (.slice e)) (hs:sizeOf? c e=some sz) (hv:VR E X v) (hu:VR E Y u) :
  SemV P E h w (copy? h sz X Y) (Builtin.copy_ #[dt,xt] ty #[v,u]):=by
 unfold copy?
 split
 ·rename_i new n hel hlen
  simp only[lnf_eq,forceN_eq]
  cases hb:(Nat.ble 1 sz&&(szIsB sz Y&&szIs sz X))with
  |false=>exact .no
  |true=>
   simp only[Bool.and_eq_true,Nat.ble_eq]at hb
   obtain⟨h0,hB,hX⟩:=hb
   simp only[cond]
   have he:=elems_ok W h0 hu hel hB
   obtain⟨ns,n1,n2,n3,n4⟩:=he.first (P:=P) (new.take n).length (by rw[List.length_take];exact Nat.min_le_right ..)
   have htk:new.take (new.take n).length=new.take n:=by
    rw[List.length_take,List.take_eq_take_iff];omega
   rw[htk]at n4
   have hmin:(new.take n).length=Nat.min new.length n:=by rw[List.length_take];exact Nat.min_comm ..
   split
   ·rename_i i g sz' off len
    simp only[szIs,Nat.beq_eq]at hX;subst hX
    simp only[lenOf?,Option.some.injEq]at hlen;subst hlen
    split
    ·rename_i e' sz2 xs ex g' ho
     cases hb:(Nat.beq g g'&&Nat.beq sz' sz2)with
     |false=>exact .no
     |true=>
      simp only[Bool.and_eq_true,Nat.beq_eq]at hb
      obtain⟨rfl,rfl⟩:=hb
      simp only[cond]
      intro hno
      generalize hr:overK xs off (new.take len) _ VH.no=r at hno ⊢
      have hne:r ≠ .no:=fun e=>by subst e;simp [VH.isNo]at hno
      obtain⟨hle,rfl⟩:=overK_some hr hne
      cases hv with
      | @sl _ _ _ _ _ b m cap ha hc hl hs0=>
      obtain⟨w',hrun,A⟩:=rowOver_ok (P:=P) W ho ha hle n2 n3 n4
      refine⟨_,w',?_,E,A,.p (.int .i64 (.ofNat (new.take len).length))⟩
      rw[hmin]at n1 ⊢
      rw[run_copy C hd hs he.len n1]
      simp only[hrun,Result.andThen_ok]
      rfl
    ·exact .no
   ·rename_i i off len s1
    cases hb:(Nat.beq sz 1&&allFit false 1 (new.take n))with
    |false=>exact .no
    |true=>
     simp only[Bool.and_eq_true,Nat.beq_eq]at hb
     obtain⟨rfl,hfit⟩:=hb
     simp only[lenOf?,Option.some.injEq]at hlen;subst hlen
     simp only[]
     split
     ·rename_i e' cs ho
      intro hno
      generalize hr:overK cs off ((new.take len).map AV.p) _ VH.no=r at hno ⊢
      have hne:r ≠ .no:=fun e=>by subst e;simp [VH.isNo]at hno
      obtain⟨hle,rfl⟩:=overK_some hr hne
      cases hv with
      | @asl _ _ _ _ b m cap ha hl=>
      obtain⟨b',n',vs,z,hptr,hab,hblk,hsz,hz,hcs⟩:=ptr_cells (off:=off) W (.ptr ha) ho
      simp only[Value.pointer.injEq,Option.some.injEq,Addr.mk.injEq,and_true]at hptr
      subst hptr
      have hcl:cs.length=vs.size:=by simpa using hcs.1.1
      have hcr:CR' E ((new.take len).map .p) ns:=by
       refine CR'.of_p (by omega) n3 ?_
       intro j x v hx hv
       obtain⟨a,bb⟩:=n4 j x hx
       have hxc:=fitsA_single (allFit_ok hfit x (List.mem_of_getElem? hx))
       obtain⟨v',hv',_,hp⟩:=bb 0 x (by rw[hxc];rfl)
       have:ns[j]?=some v':=by
        have e:ns[0+j*1+0]?=some v':=hv'
        simpa using e
       rw[hv]at this;cases this;exact hp
      simp only[List.length_map]at hle
      obtain⟨w',cur',hrun,k1,k2,k3,k4,k5,k6,k7⟩:=run_storeCells (P:=P) (b:=b) (o:=off) ns 0 vs w hblk (by rw[hsz];exact hz) (by omega) n3
      refine⟨_,w',?_,E,?_,.p (.int .i64 (.ofNat (new.take len).length))⟩
      ·rw[hmin]at n1 ⊢
       rw[run_copy C hd hs he.len n1]
       simp only[hrun,Result.andThen_ok]
       rfl
      ·refine Adv.set W hab (by rw[ho];rfl) (by rw[ho];rfl) rfl ?_ k3 k4 k5 k6 k7
       rw[k1]
       refine .cells ?_ hz ?_
       ·have:=congrArg List.length k2
        simp at this;omega
       ·rw[k2]
        simpa using hcs.over hcr off (by simpa using hle)
     ·exact .no
   ·split
    ·have:=hv.p_inv;cases this
     simp only[lenOf?,Option.some.injEq]at hlen;subst hlen
     refine .w W ?_ (.p (.int .i64 (.ofNat (new.take 0).length)))
     rw[hmin]at n1 ⊢
     rw[run_copy C hd hs he.len n1]
     rfl
    ·exact .no
   ·exact .no
 ·exact .no
theorem newRow_sem(W:WR E h w) {s:Sem Value} {e sz xs ex n cap ns z d} (hrun:s.run P w=.ok (.slice (some ⟨w.heap.size,0,none⟩) n cap) {w with drawn:=d,heap:=w.heap.push (.cells ns e z)})
  (h0:0<sz) (hel:ElemsG E.f (fun o=>ns[o]?) 0 sz xs) (hn:xs.length*sz≤ns.size) (hex:ex=true→ns.size=xs.length*sz)
  (hc:cap*sz=ns.size) (hz:softR e z ns.size) (hl:n≤cap):SemV P E h w (newRow h e sz xs ex n) s:=
 fun _=>⟨_,_,hrun,newRow_ok W d h0 hel hn hex hc hz hl⟩
theorem makeSlice_ok(C:CtxOk c P) (W:WR E h w) {t X Y v u} (hv:VR E X v) (hu:VR E Y u):SemV P E h w (makeSlice? c h t X Y) (Instr.makeSlice t v u):=by
 unfold makeSlice?
 split
 ·rename_i e ht
  refine onII_ok hv hu fun k l k' m h1 h2=>?_
  subst h1;subst h2
  split
  ·rename_i i z a hi hz ha
   cases hb:(!ltI l 0 && !ltI m l && !ltI 140737488355328 (Int.mul i.bytes m)&&Nat.ble 1 i.bytes&&Nat.ble 1 i.size&&fitsA a i.size z)with
   |false=>exact .no
   |true=>
    simp only[Bool.and_eq_true]at hb
    obtain⟨⟨⟨⟨⟨b1,b2⟩,b3⟩,b4⟩,b5⟩,b6⟩:=hb
    have b1:¬ l<0:=by intro hh;rw[ltI_eq,decide_eq_true hh]at b1;cases b1
    have b2:¬ m<l:=by intro hh;rw[ltI_eq,decide_eq_true hh]at b2;cases b2
    have b3:¬ (140737488355328:Int)<Int.mul i.bytes m:=by intro hh;rw[ltI_eq,decide_eq_true hh]at b3;cases b3
    have b4:=Nat.le_of_ble_eq_true b4
    have b5:=Nat.le_of_ble_eq_true b5
    simp only[cond]
    obtain⟨ti,zv,hi',hzv,hpr⟩:=zero_pr hz
    rw[hi]at hi';cases hi'
    obtain⟨z1,z2,z3,z4⟩:=zeros_ok (hpr E.f) (fitsA_len b6) (by omega) m.toNat
    obtain⟨M,rfl⟩:=Int.eq_ofNat_of_zero_le (show 0≤m by omega)
    obtain⟨L,rfl⟩:=Int.eq_ofNat_of_zero_le (show 0≤l by omega)
    have e3:Int.mul (i.bytes:Int) (M:Int)=((i.bytes*M:Nat):Int):=rfl
    have b3':i.bytes*M≤140737488355328:=by rw[e3]at b3;omega
    have hM:M≤140737488355328:=Nat.le_trans (Nat.le_mul_of_pos_left M (by omega)) b3'
    have hLM:L≤M:=by omega
    have wM:IntKind.i64.wrap (M:Int)=M:=by rw[wrap64_eq];split<;>omega
    have wL:IntKind.i64.wrap (L:Int)=L:=by rw[wrap64_eq];split<;>omega
    have g1:¬ ((281474976710656:Int)<(i.bytes:Int)*(M:Int)):=by
     intro hh
     have hh:(281474976710656:Int)<((i.bytes*M:Nat):Int):=hh
     omega
    have hnn:M*i.size=0→M=0:=fun hh=>by
     rcases Nat.mul_eq_zero.1 hh with h|h
     ·exact h
     ·omega
    refine newRow_sem W (cap:=M) (z:=(0,0)) (d:=w.drawn) (ns:=(Array.range (M*i.size)).map fun j=>zv.cells[j % zv.cells.size]!) ?_ (by omega) (by simpa using z4) (by simp) (by simp) (by simp) (soft00 _ _) (by simpa using hLM)
    have hsz:(Go.sizeOf e).run P w=.ok i.size w:=run_sizeOf C (by simp [sizeOf?,hi]) w
    have hzr:=run_zeroValue (w:=w) C hi hzv
    have c1:¬ ((M:Int)<0):=by omega
    have c2:¬ ((L:Int)<0):=by omega
    have c3:¬ ((M:Int)<(L:Int)):=by omega
    simp [Instr.makeSlice,run_underlying C ht,asInt,asIntOf,run_typeInfo C hi,wM,wL,g1,c1,c2,c3,hsz,hzr,Go.newRow]
    intro hh
    have e0:∀ f:Nat→Value,Array.map f (Array.range 0) = #[]:=fun f=>by apply Array.eq_empty_of_size_eq_zero;simp
    rw[hh,e0,e0]
  ·exact .no
 ·exact .no
end
section
variable {c:Ctx} {P:Program} {E:Rn} {h:List Ob} {w:World}
def PL(E:Rn):List (Nat×AV)→List (Nat×Value)→Prop
 | [],[]=>True
 | (i,x)::l,(j,v)::m=>i=j∧VR E x v∧PL E l m
 |_,_=>False
def PLP(f:Nat→Option (Array Value)):List (Nat×PV)→List (Nat×Value)→Prop
 | [],[]=>True
 | (i,x)::l,(j,v)::m=>i=j∧PR f x v∧PLP f l m
 |_,_=>False
theorem PLP.mono{f f':Nat→Option (Array Value)} (hf:∀ b x,f b=some x→f' b=some x):∀ {l m},PLP f l m→PLP f' l m
 | [],[],_=>trivial
 | (i,x)::l,(j,v)::m,h=>⟨h.1,h.2.1.mono hf,PLP.mono hf h.2.2⟩
 | [],_::_,h=>h.elim
 |_::_,[],h=>h.elim
theorem foldl_set(off:Nat):∀ (l:List Value) (k:Nat) (cells:Array Value),off+k+l.length≤cells.size →
  ((l.zipIdx k).foldl (fun(cs:Array Value) (x:Value×Nat)=>cs.setIfInBounds (off+x.2) x.1) cells).toList=cells.toList.take (off+k)++(l++cells.toList.drop (off+k+l.length))
 | [],k,cells,_=>by simp
 |v::l,k,cells,hl=>by
  simp only[List.length_cons]at hl
  rw[List.zipIdx_cons,List.foldl_cons,foldl_set off l (k+1) _ (by simp;omega)]
  have hlen:off+k<cells.toList.length:=by simp;omega
  simp only[Array.toList_setIfInBounds]
  rw[show off+(k+1)=(off+k)+1 by omega,List.take_succ_eq_append_getElem (by simpa using hlen)]
  simp only[List.take_set_of_le (Nat.le_refl _),List.getElem_set_self,List.append_assoc,List.cons_append,List.nil_append]
  rw[List.drop_set_of_lt (by omega),show off+k+1+l.length=off+k+(v::l).length by simp;omega]
theorem fold_cells{v:Value} {off:Nat} {cells:Array Value} (hl:off+v.cells.size≤cells.size) :
  (v.cells.zipIdx.foldl (fun cs (x:Value×Nat)=>cs.setIfInBounds (off+x.2) x.1) cells).toList=cells.toList.take off++(v.cells.toList++cells.toList.drop (off+v.cells.toList.length)):=by
 rw[← Array.foldl_toList,Array.toList_zipIdx]
 have:=foldl_set off v.cells.toList 0 cells (by simpa using hl)
 simpa using this
theorem fillP_ok{place place':Nat→Option (Nat×Nat)} (hp:∀ i r,place i=some r→place' i=some r):∀ (l:List (Nat×AV)) (ps:List (Nat×Value)) (cs:List AV) (cells:Array Value) (m:List AV),
  PL E l ps→CR' E cs cells.toList→fillP place cs l=some m→∃ cells',Instr.fill place' cells ps=some cells'∧CR' E m cells'.toList
 | [],[],cs,cells,m,_,hc,hf=>by simp only[fillP,Option.some.injEq]at hf;subst hf;exact⟨cells,rfl,hc⟩
 | [],_::_,_,_,_,h,_,_=>h.elim
 |_::_,[],_,_,_,h,_,_=>h.elim
 | (i,x)::l,(j,v)::ps,cs,cells,m,hl,hc,hf=>by
  obtain⟨rfl,hv,hl⟩:=hl
  unfold fillP at hf
  cases hpl:place i with
  |none=>simp [hpl]at hf
  |some r=>
   obtain⟨off,size⟩:=r
   cases hx:x.cells? with
   |none=>simp [hpl,hx]at hf
   |some us=>
    simp only[hpl,hx]at hf
    cases hb:Nat.beq us.length size with
    |false=>simp [hb]at hf
    |true=>
     simp only[hb,cond]at hf
     obtain⟨hle,hf⟩:=overK_some hf (by simp)
     have hcr:=cells_ok hv hx
     have hul:us.length=v.cells.size:=by simpa using hcr.1.1
     have hcl:cs.length=cells.size:=by simpa using hc.1.1
     have hsz:us.length=size:=Nat.eq_of_beq_eq_true hb
     have hov:=hc.over hcr off hle
     have e:=fold_cells (v:=v) (off:=off) (cells:=cells) (by omega)
     rw[← e]at hov
     obtain⟨cells',h1,h2⟩:=fillP_ok hp l ps _ _ m hl hov hf
     refine⟨cells',?_,h2⟩
     unfold Instr.fill
     simp only[hp _ _ hpl]
     rw[if_neg]
     ·exact h1
     ·simp;omega
theorem zero_cells{t z ti zv} (hz:zero? c t=some z) (hi:c.info t=some ti) (hzv:ti.zero=some zv):CR' E (z.cells.map .p) zv.cells.toList:=by
 obtain⟨ti',zv',h1,h2,h3⟩:=zero_pr hz
 rw[hi]at h1;cases h1
 rw[hzv]at h2;cases h2
 exact cells_ok (.p (h3 E.f)) rfl
theorem allSized_ok(C:CtxOk c P) {fields:Array Field}:∀ (l:List Field),allSized c l=true →
  ∃ places,l.mapM (fun f=>(P.info? f.type).map fun i=>(f.offset,i.size))=some places∧∀ (i:Nat) f,l[i]?=some f→∃ s,sizeOf? c f.type=some s∧places[i]?=some (f.offset,s)
 | [],_=>⟨[],rfl,by simp⟩
 |f::l,h=>by
  unfold allSized at h
  split at h
  ·rename_i ti hi
   obtain⟨places,h1,h2⟩:=allSized_ok C (fields:=fields) l h
   refine⟨(f.offset,ti.size)::places,?_,?_⟩
   ·simp [List.mapM_cons,C.info _ _ hi,h1]
   ·intro i g hg
    cases i with
    |zero=>simp only[List.getElem?_cons_zero,Option.some.injEq]at hg;subst hg;exact⟨ti.size,by simp [sizeOf?,hi],rfl⟩
    |succ i=>obtain⟨s,a,b⟩:=h2 i g (by simpa using hg);exact⟨s,a,by simpa using b⟩
  ·cases h
theorem build_ok(C:CtxOk c P) {t:TypeId} {l:List (Nat×AV)} {ps:Array (Nat×Value)} {x:AV} (hl:PL E l ps.toList) (hb:build? c t l=some x) :
  ∃ v,(Instr.build t ps).run P w=.ok v w∧VR E x v:=by
 unfold build? at hb
 split at hb
 ·rename_i z fields hz hu
  cases hal:allSized c fields.toList with
  |false=>simp [hal]at hb
  |true=>
   simp only[hal,cond]at hb
   split at hb
   ·rename_i m hm
    simp only[Option.some.injEq]at hb;subst hb
    obtain⟨ti,zv,hi,hzv,_⟩:=zero_pr hz
    obtain⟨places,h1,h2⟩:=allSized_ok (fields:=fields) C fields.toList hal
    obtain⟨cells',h3,h4⟩:=fillP_ok (place':=fun i=>places.toArray[i]?) (by
     intro i r hr
     unfold fplace at hr
     split at hr
     ·rename_i f hf
      obtain⟨s,a,b⟩:=h2 i f (by simpa using hf)
      rw[a]at hr
      simp only[Option.some.injEq]at hr
      subst hr;simpa using b
     ·cases hr) l ps.toList _ zv.cells m hl (zero_cells hz hi hzv) hm
    refine⟨.agg cells',run_build w t ps cells' ?_,mkAgg_ok h4⟩
    unfold Program.built
    simp only[C.info _ _ hi,C.under _ _ hu,hzv,h1]
    exact h3
   ·cases hb
 ·rename_i z n e hz hu
  split at hb
  ·rename_i s hs
   split at hb
   ·rename_i m hm
    simp only[Option.some.injEq]at hb;subst hb
    obtain⟨ti,zv,hi,hzv,_⟩:=zero_pr hz
    obtain⟨cells',h3,h4⟩:=fillP_ok (place':=fun i=>some (i*s,s)) (fun i r hr=>hr) l ps.toList _ zv.cells m hl (zero_cells hz hi hzv) hm
    refine⟨.agg cells',run_build w t ps cells' ?_,mkAgg_ok h4⟩
    unfold Program.built
    unfold sizeOf? at hs
    split at hs
    ·rename_i ie hie
     simp only[Option.some.injEq]at hs;subst hs
     simp only[C.info _ _ hi,C.under _ _ hu,hzv,C.info _ _ hie]
     exact h3
    ·cases hs
   ·cases hb
  ·cases hb
 ·cases hb
theorem pureParts_ok:∀ (l:List (Nat×AV)) (ps:List (Nat×Value)) (E:Rn) (h:List Ob) (qs:List (Nat×PV)) (h':List Ob),WR E h w→PL E l ps→pureParts h l=some (qs,h') →
  ∃ E',Adv E h w E' h' w∧PLP E'.f qs ps
 | [],[],E,h,qs,h',W,_,hf=>by
  simp only[pureParts,Option.some.injEq,Prod.mk.injEq]at hf
  obtain⟨rfl,rfl⟩:=hf
  exact⟨E,Adv.refl W,trivial⟩
 | [],_::_,_,_,_,_,_,hl,_=>hl.elim
 |_::_,[],_,_,_,_,_,hl,_=>hl.elim
 | (i,x)::l,(j,v)::ps,E,h,qs,h',W,hl,hf=>by
  obtain⟨rfl,hv,hl⟩:=hl
  unfold pureParts at hf
  split at hf
  ·rename_i q h1 hq
   split at hf
   ·rename_i qs' h2 hqs
    simp only[Option.some.injEq,Prod.mk.injEq]at hf
    obtain⟨rfl,rfl⟩:=hf
    obtain⟨E1,A1,p1⟩:=pure1_ok (P:=default) x E h q h1 v W hv hq
    have hl1:∀ {l:List (Nat×AV)} {ps:List (Nat×Value)},PL E l ps→PL E1 l ps:=by
     intro l
     induction l with
     |nil=>intro ps hp;cases ps<;>first|trivial|exact hp.elim
     |cons y l ih=>
      intro ps hp
      cases ps with
      |nil=>exact hp.elim
      |cons z ps=>exact⟨hp.1,hp.2.1.mono A1.le,ih hp.2.2⟩
    obtain⟨E2,A2,p2⟩:=pureParts_ok l ps E1 h1 qs' h2 A1.wr (hl1 hl) hqs
    exact⟨E2,A1.trans A2,rfl,p1.mono A2.le.f,p2⟩
   ·cases hf
  ·cases hf
end
section
variable {c:Ctx} {P:Program} {E:Rn} {h:List Ob} {w:World}
theorem ElemsG.set{f:Nat→Option (Array Value)} {sz i:Nat} {xs:List PV} {vs ns:List Value} {x:PV} (h1:ElemsG f (fun o=>vs[o]?) 0 sz xs) (hx:x.cells.length=sz) (hl:ns.length=sz)
  (h2:CellsG f (fun o=>ns[o]?) 0 x.cells) (hi:i<xs.length) (hv:xs.length*sz≤vs.length) :
  ElemsG f (fun o=>(vs.take (i*sz)++(ns++vs.drop (i*sz+ns.length)))[o]?) 0 sz (xs.set i x):=by
 have he:ElemsG f (fun o=>ns[o]?) 0 sz [x]:=by
  intro j y hy
  cases j with
  |zero=>simp only[List.getElem?_cons_zero,Option.some.injEq]at hy;subst hy;exact⟨hx,by simpa using h2⟩
  |succ j=>simp at hy
 have:=ElemsG.over (off:=i) h1 he (by simpa using hl) (by simp only[List.length_singleton];omega) hv
 have e:xs.take i++([x]++xs.drop (i + [x].length))=xs.set i x:=by
  rw[List.set_eq_take_append_cons_drop,if_pos hi];rfl
 rwa[e]at this
theorem setAll_ok{f:Nat→Option (Array Value)} {a sz}:∀ (qs:List (Nat×PV)) (ps:List (Nat×Value)) (xs xs':List PV) (cells:Array Value),PLP f qs ps→allFit2 a sz qs=true→setAll xs qs=some xs' →
  ElemsG f (fun o=>cells[o]?) 0 sz xs→cells.size=xs.length*sz →
  ∃ cells',Instr.fill (fun i=>some (i*sz,sz)) cells ps=some cells'∧ElemsG f (fun o=>cells'[o]?) 0 sz xs'∧cells'.size=xs'.length*sz∧xs'.length=xs.length
 | [],[],xs,xs',cells,_,_,hs,he,hn=>by simp only[setAll,Option.some.injEq]at hs;subst hs;exact⟨cells,rfl,he,hn,rfl⟩
 | [],_::_,_,_,_,hl,_,_,_,_=>hl.elim
 |_::_,[],_,_,_,hl,_,_,_,_=>hl.elim
 | (i,x)::qs,(j,v)::ps,xs,xs',cells,hl,hf,hs,he,hn=>by
  obtain⟨rfl,hv,hl⟩:=hl
  unfold allFit2 at hf
  cases hfit:fitsA a sz x with
  |false=>simp [hfit]at hf
  |true=>
   simp only[hfit,cond]at hf
   unfold setAll at hs
   cases hb:Nat.blt i xs.length with
   |false=>simp [hb]at hs
   |true=>
    have hi:i<xs.length:=Nat.le_of_ble_eq_true hb
    simp only[hb,cond,lnf_eq]at hs
    have hcr:CR' ⟨fun _ _=>none,f⟩ (x.cells.map .p) v.cells.toList:=cells_ok (.p hv) rfl
    have hxl:=fitsA_len hfit
    have hvl:v.cells.size=sz:=by have:=hcr.1.1;simp at this;omega
    have hm:(i+1)*sz≤xs.length*sz:=Nat.mul_le_mul_right _ hi
    rw[Nat.succ_mul]at hm
    have e:=fold_cells (v:=v) (off:=i*sz) (cells:=cells) (by omega)
    have h2:CellsG f (fun o=>v.cells.toList[o]?) 0 x.cells:=by
     intro j y hy
     have hj:j<v.cells.toList.length:=by
      rw[Array.length_toList,hvl,← hxl];exact(List.getElem?_eq_some_iff.1 hy).1
     exact⟨v.cells.toList[j],by simp,hcr.2 _ (List.getElem_mem ..),(hcr.1.2 j (.p y) _ (by simp [hy]) (by simp)).p_inv⟩
    have hset:=ElemsG.set (vs:=cells.toList) (ns:=v.cells.toList) (by simpa using he) hxl (by simpa using hvl) h2 hi (by simp;omega)
    rw[← e]at hset
    have hsz:(v.cells.zipIdx.foldl (fun cs (x:Value×Nat)=>cs.setIfInBounds (i*sz+x.2) x.1) cells).size=cells.size:=by
     have:=congrArg List.length e
     simp only[List.length_append,List.length_take,List.length_drop,Array.length_toList]at this
     omega
    obtain⟨cells',k1,k2,k3,k4⟩:=setAll_ok qs ps (xs.set i x) xs' _ hl hf hs (by simpa only[Array.getElem?_toList]using hset) (by rw[hsz,hn,List.length_set])
    refine⟨cells',?_,k2,k3,by rw[k4,List.length_set]⟩
    unfold Instr.fill
    simp only[]
    rw[if_neg]
    ·exact k1
    ·simp;omega
theorem buildSlice_ok(C:CtxOk c P) (W:WR E h w) {t n} {l:List (Nat×AV)} {ps:Array (Nat×Value)} (hl:PL E l ps.toList):SemV P E h w (buildSlice? c h t n l) (Instr.buildSlice t n ps):=by
 unfold buildSlice?
 split
 ·rename_i e ht
  split
  ·rename_i sz a qs h1 zs hs ha hp hz
   cases hb:(Nat.ble (n*(sz+1)) 16777216&&allFit2 a (sz+1) qs&&allFit a (sz+1) zs)with
   |false=>exact .no
   |true=>
    simp only[Bool.and_eq_true]at hb
    obtain⟨⟨b1,b2⟩,b3⟩:=hb
    have b1:=Nat.le_of_ble_eq_true b1
    simp only[cond]
    split
    ·rename_i xs hx
     intro hno
     obtain⟨E1,A1,hpl⟩:=pureParts_ok l ps.toList E h qs h1 W hl hp
     have hbig:¬ (16777216<n*(sz+1)):=by omega
     -- the zeros
     have hzero : ∃ cells : Array Value, (∀ cells', Instr.fill (fun i => some (i * (sz + 1), sz + 1)) cells ps.toList = some cells' →
       (Instr.buildSlice t n ps).run P w=.ok (.slice (some ⟨w.heap.size,0,none⟩) n n) (w.alloc (.cells cells' e)))∧cells.size=n*(sz+1)∧ElemsG E1.f (fun o=>cells[o]?) 0 (sz+1) zs∧zs.length=n:=by
      cases n with
      |zero=>
       simp only[zeros?,Option.some.injEq]at hz
       subst hz
       have e0:∀ f:Nat→Value,Array.map f (Array.range 0) = #[]:=fun f=>by apply Array.eq_empty_of_size_eq_zero;simp
       refine⟨#[],fun cells' hf=>?_,by simp,by intro i x hx;simp at hx,rfl⟩
       simp [Instr.buildSlice,run_underlying C ht,run_sizeOf C hs]
       rw[e0,hf]
       simp [Go.newRow]
      |succ n=>
       simp only[zeros?]at hz
       split at hz
       ·rename_i z hzz
        simp only[Option.some.injEq]at hz
        subst hz
        obtain⟨ti,zv,hi,hzv,hpr⟩:=zero_pr hzz
        have hfit:=allFit_ok b3 z (by simp)
        obtain⟨z1,z2,z3,z4⟩:=zeros_ok (hpr E1.f) (fitsA_len hfit) (by omega) (n+1)
        refine⟨_,fun cells' hf=>?_,z2,z4,by simp⟩
        have hzr:=run_zeroValue (w:=w) C hi hzv
        have hbig':¬ (16777216<(n+1)*(sz+1)):=hbig
        simp [Instr.buildSlice,run_underlying C ht,run_sizeOf C hs,hbig',hzr,hf,Go.newRow]
       ·cases hz
     obtain⟨cells,hrun,hsz,hel,hzl⟩:=hzero
     obtain⟨cells',k1,k2,k3,k4⟩:=setAll_ok qs ps.toList zs xs cells hpl b2 hx hel (by rw[hsz,hzl])
     have hxl:xs.length=n:=by omega
     obtain⟨E2,A2,hv⟩:=newRow_ok (e:=e) (ns:=cells') (z:=(0,0)) (n:=n) (cap:=n) (xs:=xs) (ex:=true) A1.wr w.drawn (by omega) k2 (by omega) (fun _=>k3) (by rw[k3,hxl]) (soft00 _ _) (Nat.le_refl _)
     have hr:=hrun cells' k1
     have hH:VH.heap h (newRowH h1 e (sz+1) xs true n)=VH.heap h1 (newRow h1 e (sz+1) xs true n):=by simp [newRowH,newRow,VH.heap]
     have hV:VH.val (newRowH h1 e (sz+1) xs true n)=VH.val (newRow h1 e (sz+1) xs true n):=by simp [newRowH,newRow,VH.val]
     clear hrun hno hpl b2
     cases l with
     |nil=>
      simp only[pureParts,Option.some.injEq,Prod.mk.injEq]at hp
      obtain⟨_,rfl⟩:=hp
      exact⟨_,_,hr,E2,A1.trans A2,hv⟩
     |cons y l'=>
      refine⟨_,_,hr,E2,A1.trans ?_,?_⟩
      ·show Adv E1 h1 w E2 (VH.heap h (newRowH h1 e (sz+1) xs true n)) _
       rw[hH];exact A2
      ·show VR E2 (VH.val (newRowH h1 e (sz+1) xs true n)) _
       rw[hV];exact hv
    ·exact .no
  ·exact .no
 ·exact .no
theorem isByteT_ok{e} (h:isByteT c e=true):c.under e=some (.int .u8):=by
 unfold isByteT at h
 split at h
 ·assumption
 ·cases h
theorem szIs_B{sz X} (h:szIs sz X=true):szIsB sz X=true:=by
 cases X with
 |p p=>cases p<;>simp_all [szIs,szIsB]
 |_=>simp_all [szIs,szIsB]
theorem szIs_slice{sz X v} (h:szIs sz X=true) (hv:VR E X v):∀ s,v ≠ .string s:=by
 cases hv with
 |p hp=>cases hp<;>simp_all [szIs]
 |full hp hc=>obtain⟨a,n,rfl⟩:=hp.elems0;simp
 |_=>simp_all [szIs]
theorem bytesOf_cells:∀ (xs:List PV) (b:List UInt8),bytesOf xs=some b→∀ x∈xs,x.cells=[x]
 | [],_,_,x,hx=>by simp at hx
 |y::ys,b,hb,x,hx=>by
  unfold bytesOf at hb
  split at hb
  ·split at hb
   ·rename_i m hm
    rcases List.mem_cons.1 hx with rfl|hx
    ·rfl
    ·exact bytesOf_cells ys m hm x hx
   ·cases hb
  ·cases hb
theorem bytes_of_elems{f:Nat→Option (Array Value)}:∀ (xs:List PV) (b:List UInt8) (cs:List Value),bytesOf xs=some b→cs.length=xs.length*1→ElemsG f (fun o=>cs[o]?) 0 1 xs →
  ∃ ns:List Int,cs=ns.map (Value.int .u8)∧b=ns.map (fun n=>UInt8.ofNat n.toNat):=by
 intro xs b cs hb hl he
 refine bytesOf_ok (E:=⟨fun _ _=>none,f⟩) xs b hb cs (by omega) ?_
 intro i x v hx hv
 have hxc:=bytesOf_cells xs b hb x (List.mem_of_getElem? hx)
 obtain⟨_,h2⟩:=he i x hx
 obtain⟨u,hu,_,hp⟩:=h2 0 x (by rw[hxc];rfl)
 have:cs[0+i*1+0]?=some u:=hu
 rw[show 0+i*1+0=i by omega,hv]at this
 cases this;exact hp
theorem Adv.pushFrz(W:WR E h w) {vs:Array Value} {e:TypeId} {z:Nat×Nat} {d:Nat} :
  Adv E h w (E.frz w.heap.size vs) h {w with drawn:=d,heap:=w.heap.push (.cells vs e z)}:=by
 have hfz:∀ b us,E.f b=some us→b<w.heap.size:=fun b us hb=>by
  obtain⟨e,z,hx⟩:=W.frz b us hb
  by_cases hlt:b<w.heap.size
  ·exact hlt
  ·rw[Array.getElem?_eq_none (by omega)]at hx;cases hx
 have hnone:E.f w.heap.size=none:=by
  cases hf:E.f w.heap.size with
  |none=>rfl
  |some us=>exact absurd (hfz _ _ hf) (by omega)
 have hle:E.le (E.frz w.heap.size vs):=Rn.le_frz hnone
 have hpush:∀ b,b<w.heap.size→(w.heap.push (.cells vs e z))[b]?=w.heap[b]?:=fun b hb=>by rw[Array.getElem?_push,if_neg (by omega)]
 have hother:∀ b,b<w.heap.size→(E.frz w.heap.size vs).f b=E.f b:=fun b hb=>by
  show(if b=w.heap.size then some vs else E.f b)=_
  rw[if_neg (by omega)]
 refine⟨hle,⟨?_,?_,?_,?_,W.inj,W.old,W.new,W.cur⟩,⟨rfl,rfl,rfl,by simp,fun b hb _=>hpush b hb⟩,fun i b n hi hd ha _=>⟨i,n,hi,hd,ha,id⟩,?_,Nat.le_refl _,fun i _ hn=>⟨rfl,hn⟩⟩
 ·intro i g b n ha
  have:=W.bnd i g b n ha
  simp;omega
 ·intro b us hb
  have hb':(if b=w.heap.size then some vs else E.f b)=some us:=hb
  split at hb'
  ·cases hb';subst_vars;exact⟨e,z,by simp⟩
  ·obtain⟨e',z',hx⟩:=W.frz b us hb'
   exact⟨e',z',by rw[← hx];exact hpush b (hfz b us hb')⟩
 ·intro i b n hi ha
  have hx:({w with drawn:=d,heap:=w.heap.push (.cells vs e z)}:World).heap[b]?=w.heap[b]?:=hpush b (W.bnd _ _ _ _ ha)
  rw[hx]
  exact(W.obj i b n hi ha).mono hle
 ·intro i b n hi ha hs
  rw[hother b (W.bnd _ _ _ _ ha)]
  exact W.own i b n hi ha hs
 ·intro b us h1 h2 hb
  rw[hother b hb,h2]at h1
  cases h1
theorem convH_ok(C:CtxOk c P) (W:WR E h w) {src dst X v} (hv:VR E X v):SemV P E h w (convH c h src dst X) (convert src dst v):=by
 unfold convH
 split
 ·rename_i hs hd;exact convUp_ok C W hs hd hv
 ·rename_i hs hd;exact convDown_ok C W hs hd hv
 ·rename_i e hs hd
  split
  ·split
   ·rename_i b
    cases hb:isByteT c e with
    |false=>exact .no
    |true=>
     simp only[cond]
     have:=hv.p_inv
     cases this with
     |str s l hl=>
     have hrun:=run_bytes_of_string (P:=P) w src dst e s (C.under _ _ hs) (C.under _ _ hd) (C.under _ _ (isByteT_ok hb))
     have hsz:s.size=b.length:=by rw[← hl];rfl
     have hge:=grownCap_ge w s.size 0 e
     rw[hsz]at hrun hge
     have hbs:(bytesRow s (grownCap w b.length 0 e)).size=grownCap w b.length 0 e:=by
      simp only[bytesRow,Array.size_append,Array.size_map,Array.size_replicate]
      have:s.data.size=b.length:=hsz
      omega
     have hlen:(bytesPV b).length=b.length:=by simp [bytesPV]
     cases h5:Nat.beq e 5 with
     |true=>
      simp only[cond]
      refine fun _=>⟨_,_,hrun,newRow_ok W _ Nat.one_pos ?_ (by rw[hlen,hbs];omega) (by simp) (by rw[hbs];omega) ⟨fun o ho=>by omega,fun q=>absurd (Nat.eq_of_beq_eq_true h5) q⟩ hge⟩
      intro i x hx
      obtain⟨a1,a2⟩:=bytesPV_elems E.f b i x hx
      refine⟨a1,fun j y hy=>?_⟩
      obtain⟨u,hu,hr⟩:=a2 j y hy
      refine⟨u,?_,hr⟩
      show(bytesRow s (grownCap w b.length 0 e))[0+i*1+j]?=_
      rw[← Array.getElem?_toList]
      simp only[bytesRow,Array.toList_append,Array.toList_map,hl]
      rw[List.getElem?_append_left (List.getElem?_eq_some_iff.1 hu).1]
      exact hu
     |false=>
     simp only[cond,lnf_eq]
     refine fun _=>⟨_,_,hrun,_,Adv.pushFrz W,.p ?_⟩
     suffices hE:ElemsG (E.frz w.heap.size (bytesRow s (grownCap w b.length 0 e))).f (cellF (E.frz w.heap.size (bytesRow s (grownCap w b.length 0 e))).f w.heap.size) 0 1 (bytesPV b) by
      have:=PR.of_elems (cap:=grownCap w b.length 0 e) (by rw[hlen];exact hge) hE
      rw[hlen]at this
      exact this
     have hfb:(E.frz w.heap.size (bytesRow s (grownCap w b.length 0 e))).f w.heap.size=some (bytesRow s (grownCap w b.length 0 e)):=by
      show(if _=_ then _ else _)=_
      rw[if_pos rfl]
     have h1:=bytesPV_elems (E.frz w.heap.size (bytesRow s (grownCap w b.length 0 e))).f b
     intro i x hx
     obtain⟨a1,a2⟩:=h1 i x hx
     refine⟨a1,fun j y hy=>?_⟩
     obtain⟨u,hu,hr⟩:=a2 j y hy
     refine⟨u,?_,hr⟩
     unfold cellF
     rw[hfb]
     show(bytesRow s (grownCap w b.length 0 e))[0+i*1+j]?=_
     rw[← Array.getElem?_toList]
     simp only[bytesRow,Array.toList_append,Array.toList_map,hl]
     rw[List.getElem?_append_left (List.getElem?_eq_some_iff.1 hu).1]
     exact hu
   ·exact .no
  ·exact .no
 ·rename_i e hs hd
  cases hb:(isByteT c e&&szIs 1 X)with
  |false=>exact .no
  |true=>
   simp only[Bool.and_eq_true]at hb
   obtain⟨b1,b2⟩:=hb
   simp only[cond]
   split
   ·rename_i l hel
    split
    ·rename_i b hbytes
     simp only[lnf_eq]
     have he:=elems_ok W (by decide) hv hel (szIs_B b2)
     obtain⟨cs,c1,c2,c3,c4⟩:=he.firstAll (P:=P)
     obtain⟨ns,rfl,rfl⟩:=bytes_of_elems l b cs hbytes c2 c4
     cases he with
     |nil hx=>
      subst hx
      have:ns=[]:=by simp at c2;exact c2
      subst this
      refine .w W ?_ (.p (.str ByteArray.empty _ rfl))
      rw[run_convert_bytes_string w src dst e none 0 0 (C.under _ _ hs) (C.under _ _ (isByteT_ok b1)) (C.under _ _ hd)]
      rfl
     | @row bb off cap hc hel'=>
      rw[show(Builtin.firstCells 1 l.length (.slice (some ⟨bb,off,none⟩) l.length cap))=loadCells ⟨bb,off,none⟩ (l.length*1)from rfl,Nat.mul_one]at c1
      refine .w W ?_ (.p (.str (ns.foldl (fun r n=>r.push (UInt8.ofNat n.toNat)) ByteArray.empty) _ (by rw[foldl_push];rfl)))
      rw[run_convert_bytes_string w src dst e _ _ _ (C.under _ _ hs) (C.under _ _ (isByteT_ok b1)) (C.under _ _ hd)]
      exact run_bytesToString w _ _ _ ns c1
     |str s h1 hx=>exact absurd rfl (szIs_slice b2 hv s)
    ·exact .no
   ·exact .no
 ·exact .no
theorem conv_ok(C:CtxOk c P) (W:WR E h w) {src dst X v} (hv:VR E X v):SemV P E h w (conv c h src dst X) (convert src dst v):=by
 unfold conv
 split
 ·rename_i S hs
  split
  ·exact convH_ok C W hv
  ·exact convP_ok C W hs hv
 ·exact .no
end
section
variable {c:Ctx} {P:Program} {E:Rn} {h:List Ob} {w:World}
theorem fieldOf_ok(C:CtxOk c P) {s f fd} (hf:fieldOf c s f=some fd):∃ fs,c.under s=some (.struct fs)∧fs[f]?=some fd:=by
 unfold fieldOf at hf
 split at hf
 ·rename_i fs hs;exact⟨fs,hs,hf⟩
 ·cases hf
theorem CellsG.frzPart(C:CtxOk c P) (W:WR E h w) {t:TypeId} {p q:PV} {b off o:Nat} (hc:CellsG E.f (cellF E.f b) off p.cells) (hp:part? c t p.cells o=some q) :
  CellsG E.f (cellF E.f b) (off+o) q.cells:=(part_cells (w:=w) C (fun o v hv=>frz_cell W hv) hc hp).2
theorem fieldAddr_ok(C:CtxOk c P) (W:WR E h w) {s X v f a} (hv:VR E X v) (hf:fieldAddr? c s X f=some a):∃ u,(Instr.fieldAt s v f).run P w=.ok u w∧VR E a u:=by
 unfold fieldAddr? at hf
 cases hfo:fieldOf c s f with
 |none=>simp [hfo]at hf
 |some fd=>
  obtain⟨fs,hs,hfd⟩:=fieldOf_ok C hfo
  simp only[hfo]at hf
  split at hf
  ·rename_i m hsz
   have run:∀ b o,(Instr.fieldAt s (.pointer (some ⟨b,o,none⟩)) f).run P w=.ok (.pointer (some ⟨b,o+fd.offset,none⟩)) w:=fun b o=>by
    simp [Instr.fieldAt,run_underlying C hs,hfd,Instr.sureAddr,fieldPlace,run_sizeOf C hsz,addr_add]
   split at hf
   ·simp only[forceN_eq,Option.some.injEq]at hf;subst hf
    cases hv with
    |ptr ha=>exact⟨_,run _ _,.ptr ha⟩
   ·rename_i p
    split at hf
    ·rename_i q hq
     simp only[Option.some.injEq]at hf;subst hf
     cases hv with
     |cptr hc=>exact⟨_,run _ _,.cptr (hc.frzPart C W hq)⟩
    ·cases hf
   ·simp only[forceN_eq,Option.some.injEq]at hf;subst hf
    cases hv with
    |el ha=>exact⟨_,run _ _,by rw[Nat.add_assoc];exact .el ha⟩
   ·cases hf
  ·cases hf
theorem field_ok(C:CtxOk c P) (W:WR E h w) {s X v f a} (hv:VR E X v) (hf:field? c s X f=some a):∃ u,(Instr.field s v f).run P w=.ok u w∧VR E a u:=by
 unfold field? at hf
 cases hfo:fieldOf c s f with
 |none=>simp [hfo]at hf
 |some fd=>
  obtain⟨fs,hs,hfd⟩:=fieldOf_ok C hfo
  simp only[hfo]at hf
  split at hf
  ·split at hf
   ·rename_i cs
    split at hf
    ·rename_i q hq
     simp only[Option.some.injEq]at hf;subst hf
     obtain⟨vs,rfl,hl,ho,hp⟩:=hv.p_inv.agg_inv
     obtain⟨u,hu,hpu⟩:=part_ok (w:=w) C hl ho hp hq
     exact⟨u,by simp [Instr.field,run_underlying C hs,hfd,asAgg,hu],.p hpu⟩
    ·cases hf
   ·cases hf
  ·rename_i cs
   obtain⟨vs,rfl,hl,ho,hp⟩:=hv.agg_inv
   obtain⟨u,hu,hpu⟩:=partA_ok (w:=w) C hl ho hp hf
   exact⟨u,by simp [Instr.field,run_underlying C hs,hfd,asAgg,hu],hpu⟩
  ·cases hf
theorem inB_ok{ix v n k} (hv:VR E ix v) (h:inB ix n=some k):∃ j,v=.int j (k:Int)∧k<n:=by
 unfold inB at h
 split at h
 ·split at h
  ·split at h
   ·rename_i m
    cases hb:Nat.blt m n with
    |false=>simp [hb]at h
    |true=>
     simp only[hb,cond,Option.some.injEq]at h
     subst h
     have:=hv.p_inv;cases this
     exact⟨_,rfl,Nat.le_of_ble_eq_true hb⟩
   ·cases h
  ·cases h
 ·cases h
theorem run_indexAt_in(C:CtxOk c P) {t e sz b o len cap j k} (ht:c.under t=some (.slice e)) (hs:sizeOf? c e=some sz) (hk:k<len) :
  (Instr.indexAt t (.slice (some ⟨b,o,none⟩) len cap) (.int j (k:Int))).run P w=.ok (.pointer (some ⟨b,o+k*sz,none⟩)) w:=by
 have h1:(0:Int)≤(k:Int)∧(k:Int)<(len:Int):=by omega
 simp [Instr.indexAt,asIntOf,run_underlying C ht,run_sizeOf C hs,h1,addr_add,hk]
theorem run_indexAt_arr(C:CtxOk c P) {t e sz b o len j k} (ht:c.under t=some (.array len e)) (hs:sizeOf? c e=some sz) (hk:k<len) :
  (Instr.indexAt t (.pointer (some ⟨b,o,none⟩)) (.int j (k:Int))).run P w=.ok (.pointer (some ⟨b,o+k*sz,none⟩)) w:=by
 simp [Instr.indexAt,asIntOf,run_underlying C ht,run_sizeOf C hs,addr_add,hk,Instr.sureAddr]
theorem idxVec_ok(C:CtxOk c P) (W:WR E h w) {t e ix s sz xs v u a} (ht:c.under t=some (.slice e)) (hs:sizeOf? c e=some sz) (hv:PR E.f (.vec s xs) v) (hu:VR E ix u) (hf:idxVec ix s sz xs=some a) :
  ∃ p,(Instr.indexAt t v u).run P w=.ok p w∧VR E a p:=by
 unfold idxVec at hf
 cases hb:Nat.beq s sz with
 |false=>simp [hb]at hf
 |true=>
  have:=Nat.eq_of_beq_eq_true hb
  subst this
  simp only[hb,cond]at hf
  split at hf
  ·rename_i k hk
   split at hf
   ·rename_i x hx
    simp only[Option.some.injEq]at hf;subst hf
    obtain⟨j,rfl,hlt⟩:=inB_ok hu hk
    rw[pget_eq]at hx
    obtain⟨b,off,cap,rfl,hc,he⟩:=hv.elems (.inr (by rintro rfl;simp at hx))
    exact⟨_,run_indexAt_in C ht hs hlt,.cptr (he k x hx).2⟩
   ·cases hf
  ·cases hf
theorem indexAddr_ok(C:CtxOk c P) (W:WR E h w) {t X ix v u a} (hv:VR E X v) (hu:VR E ix u) (hf:indexAddr? c t X ix=some a):∃ p,(Instr.indexAt t v u).run P w=.ok p w∧VR E a p:=by
 unfold indexAddr? at hf
 split at hf
 ·rename_i n e ht
  split at hf
  ·rename_i sz hs
   unfold idxArr at hf
   split at hf
   ·rename_i k hk
    obtain⟨j,rfl,hlt⟩:=inB_ok hu hk
    split at hf
    ·simp only[forceN_eq,Option.some.injEq]at hf;subst hf
     cases hv with
     |ptr ha=>exact⟨_,run_indexAt_arr C ht hs hlt,.ptr ha⟩
    ·simp only[forceN_eq,Option.some.injEq]at hf;subst hf
     cases hv with
     |el ha=>exact⟨_,run_indexAt_arr C ht hs hlt,by rw[Nat.add_assoc];exact .el ha⟩
    ·split at hf
     ·rename_i q hq
      simp only[Option.some.injEq]at hf;subst hf
      cases hv with
      |cptr hc=>exact⟨_,run_indexAt_arr C ht hs hlt,.cptr (hc.frzPart C W hq)⟩
     ·cases hf
    ·cases hf
   ·cases hf
  ·cases hf
 ·rename_i e ht
  split at hf
  ·rename_i sz hs
   unfold idxSlice at hf
   split at hf
   ·rename_i i g s off len
    cases hb:Nat.beq s (sz+1)with
    |false=>simp [hb]at hf
    |true=>
     have:=Nat.eq_of_beq_eq_true hb
     subst this
     simp only[hb,cond]at hf
     split at hf
     ·rename_i k hk
      simp only[forceN_eq,Option.some.injEq]at hf;subst hf
      obtain⟨j,rfl,hlt⟩:=inB_ok hu hk
      cases hv with
      |sl ha hc hl h0=>exact⟨_,run_indexAt_in C ht hs hlt,by rw[← Nat.add_mul];exact .el (o:=0) ha⟩
     ·cases hf
   ·rename_i i off len s
    cases hb:Nat.beq s (sz+1)with
    |false=>simp [hb]at hf
    |true=>
     have:=Nat.eq_of_beq_eq_true hb
     subst this
     simp only[hb,cond]at hf
     split at hf
     ·rename_i k hk
      simp only[forceN_eq,Option.some.injEq]at hf;subst hf
      obtain⟨j,rfl,hlt⟩:=inB_ok hu hk
      cases hv with
      |asl ha hl=>exact⟨_,run_indexAt_in C ht hs hlt,.ptr ha⟩
     ·cases hf
   ·split at hf
    ·exact idxVec_ok C W ht hs hv.p_inv hu hf
    ·cases hf
   ·cases hv with
    |full hp hc=>exact idxVec_ok C W ht hs hp hu hf
   ·cases hf
  ·cases hf
 ·cases hf
theorem index_ok(C:CtxOk c P) (W:WR E h w) {t X ix v u a} (hv:VR E X v) (hu:VR E ix u) (hf:index? c t X ix=some a):∃ p,(Instr.index t v u).run P w=.ok p w∧VR E a p:=by
 unfold index? at hf
 split at hf
 ·rename_i ht
  split at hf
  ·split at hf
   ·rename_i s
    split at hf
    ·rename_i k hk
     obtain⟨j,rfl,hlt⟩:=inB_ok hu hk
     have:=hv.p_inv
     cases this with
     |str s' l hl=>
     unfold byteAt at hf
     dsimp only at hf
     split at hf
     ·rename_i b rest hd
      simp only[forceN_eq,Option.some.injEq]at hf;subst hf
      have hb:s[k]?=some b:=by
       have:=congrArg (fun l=>l[0]?) hd
       simpa using this
      have hsz:k<s'.size:=by rw[← hl]at hlt;exact hlt
      have hget:s'[k]?=some b:=by
       rw[← hl]at hb
       have e2:s'.data.toList[k]?=some (s'.data[k]'hsz):=by rw[Array.getElem?_toList];exact Array.getElem?_eq_getElem _
       rw[e2]at hb
       rw[getElem?_pos s' k hsz];exact hb
      refine⟨.int .u8 b.toNat,?_,.p (.int _ _)⟩
      simp [Instr.index,asIntOf,run_underlying C ht,hget]
     ·cases hf
    ·cases hf
   ·cases hf
  ·cases hf
 ·rename_i n e ht
  split at hf
  ·rename_i k sz hk hs
   obtain⟨j,rfl,hlt⟩:=inB_ok hu hk
   split at hf
   ·split at hf
    ·rename_i cs
     split at hf
     ·rename_i q hq
      simp only[Option.some.injEq]at hf;subst hf
      obtain⟨vs,rfl,hl,ho,hp⟩:=hv.p_inv.agg_inv
      obtain⟨p,hr,hpu⟩:=part_ok (w:=w) C hl ho hp hq
      exact⟨p,by simp [Instr.index,asIntOf,run_underlying C ht,hlt,run_sizeOf C hs,hr],.p hpu⟩
     ·cases hf
    ·cases hf
   ·rename_i cs
    obtain⟨vs,rfl,hl,ho,hp⟩:=hv.agg_inv
    obtain⟨p,hr,hpu⟩:=partA_ok (w:=w) C hl ho hp hf
    exact⟨p,by simp [Instr.index,asIntOf,run_underlying C ht,hlt,run_sizeOf C hs,hr],hpu⟩
   ·cases hf
  ·cases hf
 ·cases hf
end
end Go.Ai

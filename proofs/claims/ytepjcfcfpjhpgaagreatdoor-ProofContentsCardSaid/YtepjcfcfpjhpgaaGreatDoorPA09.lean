/- What is proved: the contract of slices.Insert, and that results of runs may be taken in place of runs. Conditions: as before. -/
import Derived.Test.YtepjcfcfpjhpgaaGreatDoorPA08
import Derived.Lib.AppendZerosOnto
set_option linter.all false
namespace Go.Ai
open Go Go.RowKit
theorem callAt_of_calls{c:Ctx} {P:Program} {F:FuncId} {args:List AV} {h h':List Ob} {v:AV} (hfn:∀ vs w,(callFunc F vs).run P w=.ok (.enter F vs) w)
  (H:∀ E w,WR E h w→GR c E→∀ vs:Array Value,LR E args vs.toList→∃ r w',Calls P F vs w (fun e w''=>e=.returned r∧w''=w')∧∃ E',Adv E h w E' h' w'∧VR E' v r) :
  CallAt c P (.fn F args) h none (.ret v) h' none:=by
 intro E w u W G hu vs l
 refine⟨fun w=>hfn vs w,?_⟩
 rintro cs ⟨cs0,rfl⟩
 obtain⟨r,w',hc,E',A,hv⟩:=H E w W G vs l
 obtain⟨e,w'',fr,⟨rfl,rfl⟩,st,h1,h2⟩:=hc cs0
 obtain⟨g1,g2,g3,fn,g4,g5⟩:=h2
 exact⟨E',w'',u,fr,r,A,fun m hm=>(by cases hm),rfl,hv,st,h1,g3,g1,g2,fn,g4,g5⟩
noncomputable def insMid(e:TypeId) (sz:Nat) (bytes:Nat) (h:List Ob) (i g len k:Nat) (x:PV):Option (AEnd×List Ob):=
 match hget h i with
 |.row e' sz' xs _ g'=>cond (Nat.beq g g'&&(Nat.beq sz sz'&&(Nat.beq len xs.length&&(Nat.beq e e'&&Nat.ble ((len+1)*bytes) 140737488355328))))
  (forceN (g+1) fun g=>forceN (len+1) fun n=>lnf (xs.take k++(x::xs.drop k)) fun ys=>hsetK h i (.row e sz ys false g) fun h=>some (.ret (.sl i g sz 0 n),h)) none
 |_=>none
noncomputable def insEnd(v:VH) (h:List Ob):Option (AEnd×List Ob):=
 match v with
 |.w v=>some (.ret v,h)
 |.ws v i o=>hsetK h i o fun h=>some (.ret v,h)
 |.wn v o=>lnf (h++[o]) fun h=>some (.ret v,h)
 |.wh v h=>some (.ret v,h)
 |.no=>none
noncomputable def rowOne(h:List Ob) (j g sz off:Nat):Option PV:=
 match hget h j with
 |.row e' sz' xs _ g'=>cond (Nat.beq g g'&&(Nat.beq sz sz' && !Nat.beq e' 5)) (pget xs off) none
 |_=>none
noncomputable def insO(c:Ctx) (e:TypeId) (sz bytes:Nat) (args:List AV) (h:List Ob):Option (AEnd×List Ob):=
 match args with
 | [s,k,v]=>(match k,v with
  |.p k,.sl j g2 sz2 off2 l2=>(match k with
   |.int kk z=>(match z with
    |.ofNat k=>cond (Nat.beq (knd kk) 3&&(Nat.beq sz sz2&&Nat.beq l2 1)) (match rowOne h j g2 sz off2 with
     |some x=>(match s with
      |.sl i g sz1 off len=>cond (Nat.beq sz sz1&&Nat.beq off 0)
       (cond (Nat.beq k len) (cond (Nat.blt len 9223372036854775807) (insEnd (append? c h e s v) h) none) (cond (Nat.blt k len && !Nat.beq i j) (insMid e sz bytes h i g len k x) none)) none
      |.p p=>(match p with
       |.nils=>cond (Nat.beq k 0) (insEnd (append? c h e s v) h) none
       |_=>none)
      |_=>none)
     |none=>none) none
    |.negSucc _=>none)
   |_=>none)
  |_,_=>none)
 |_=>none
theorem insEnd_eq{v:VH} {h:List Ob} {e h'} (hi:insEnd v h=some (e,h')):v.isNo=false∧e=.ret v.val∧h'=v.heap h:=by
 cases v with
 |no=>cases hi
 |w v=>cases hi;exact⟨rfl,rfl,rfl⟩
 |ws v i o=>simp only[insEnd,hsetK_eq]at hi;cases hi;exact⟨rfl,rfl,rfl⟩
 |wn v o=>simp only[insEnd,lnf_eq]at hi;cases hi;exact⟨rfl,rfl,rfl⟩
 |wh v h=>cases hi;exact⟨rfl,rfl,rfl⟩
structure InsWalks (P:Program) (F T TV OV:Nat) (sz:Nat):Prop where
 enter:∀ vs w,(callFunc F vs).run P w=.ok (.enter F vs) w
 shift:∀ (w w1 w2:World) (b n c i vb voff vc:Nat),i<n→n+1≤c→n<9223372036854775807 →
  (∀ lb cb,(callFunc OV #[.slice (some ⟨vb,voff,none⟩) 1 vc,.slice (some ⟨b,(i+1)*sz,none⟩) lb cb]).run P w=.ok (.value (.bool false)) w) →
  (∀ ty dc sc,(Builtin.copy_ #[T,T] ty #[.slice (some ⟨b,(i+1)*sz,none⟩) (n-i) dc,.slice (some ⟨b,i*sz,none⟩) (n+1-i) sc]).run P w.drew=.ok (goInt ((n-i:Nat):Int)) w1) →
  (∀ ty dc,(Builtin.copy_ #[T,TV] ty #[.slice (some ⟨b,i*sz,none⟩) (n+1-i) dc,.slice (some ⟨vb,voff,none⟩) 1 vc]).run P w1=.ok (goInt 1) w2) →
  Calls P F #[.slice (some ⟨b,0,none⟩) n c,.int .i64 i,.slice (some ⟨vb,voff,none⟩) 1 vc] w fun e w'=>e=.returned (.slice (some ⟨b,0,none⟩) (n+1) c)∧w'=w2
 grow:∀ (w w1 w2 w3:World) (b n c i vb voff vc g G:Nat),i<n→n≤c→c<n+1→n<9223372036854775807→n+1≤G →
  (∀ ty,(Builtin.append_ #[T,3] ty #[.slice (some ⟨b,0,none⟩) i c,.int .i64 ((n:Int)+1-(i:Int))]).run P w=.ok (.slice (some ⟨g,0,none⟩) (n+1) G) w1) →
  (∀ ty dc,(Builtin.copy_ #[T,TV] ty #[.slice (some ⟨g,i*sz,none⟩) (n+1-i) dc,.slice (some ⟨vb,voff,none⟩) 1 vc]).run P w1=.ok (goInt 1) w2) →
  (∀ ty dc sc,(Builtin.copy_ #[T,T] ty #[.slice (some ⟨g,(i+1)*sz,none⟩) (n-i) dc,.slice (some ⟨b,i*sz,none⟩) (n-i) sc]).run P w2.drew=.ok (goInt ((n-i:Nat):Int)) w3) →
  Calls P F #[.slice (some ⟨b,0,none⟩) n c,.int .i64 i,.slice (some ⟨vb,voff,none⟩) 1 vc] w fun e w'=>e=.returned (.slice (some ⟨g,0,none⟩) (n+1) G)∧w'=w3
 fin:∀ (w w1:World) (base:Option Addr) (n c vb voff vc:Nat) (r:Value),n≤c→n<9223372036854775807 →
  (∀ ty,(Builtin.append_ #[T,TV] ty #[.slice base n c,.slice (some ⟨vb,voff,none⟩) 1 vc]).run P w=.ok r w1) →
  Calls P F #[.slice base n c,.int .i64 n,.slice (some ⟨vb,voff,none⟩) 1 vc] w fun e w'=>e=.returned r∧w'=w1
theorem ElemsG.cut{f:Nat→Option (Array Value)} {sz:Nat} {xs:List PV} {L:List Value} (h:ElemsG f (fun o=>L[o]?) 0 sz xs) (k q:Nat) :
  ElemsG f (fun o=>((L.drop (k*sz)).take (q*sz))[o]?) 0 sz ((xs.drop k).take q):=by
 intro i x hx
 rw[List.getElem?_take]at hx
 split at hx
 ·rename_i hi
  rw[List.getElem?_drop]at hx
  obtain⟨h1,h2⟩:=h (k+i) x hx
  refine⟨h1,fun j y hy=>?_⟩
  obtain⟨v,hv,ho⟩:=h2 j y hy
  refine⟨v,?_,ho⟩
  have hj:j<sz:=by rw[← h1];exact(List.getElem?_eq_some_iff.1 hy).1
  have hq:(i+1)*sz≤q*sz:=Nat.mul_le_mul_right _ hi
  rw[Nat.add_mul,Nat.one_mul]at hq
  show((L.drop (k*sz)).take (q*sz))[0+i*sz+j]?=_
  rw[List.getElem?_take,if_pos (by omega),List.getElem?_drop]
  have hv':L[0+(k+i)*sz+j]?=some v:=hv
  rw[Nat.add_mul]at hv'
  rw[show k*sz+(0+i*sz+j)=0+(k*sz+i*sz)+j by omega]
  exact hv'
 ·cases hx
theorem ElemsG.oneAt{f:Nat→Option (Array Value)} {sz:Nat} {xs:List PV} {L:List Value} (h0:0<sz) (h:ElemsG f (fun o=>L[o]?) 0 sz xs) {p:Nat} (hp:p<xs.length*sz) :
  ∃ v,L[p]?=some v∧v.oneCell'=true:=by
 have hi:p / sz<xs.length:=(Nat.div_lt_iff_lt_mul h0).2 hp
 obtain⟨h1,h2⟩:=h (p / sz) xs[p / sz] (List.getElem?_eq_getElem hi)
 have hm:p % sz<xs[p / sz].cells.length:=by rw[h1];exact Nat.mod_lt _ h0
 obtain⟨v,hv,ho,_⟩:=h2 (p % sz) _ (List.getElem?_eq_getElem hm)
 refine⟨v,?_,ho⟩
 have hv':L[0+p / sz*sz+p % sz]?=some v:=hv
 rw[show 0+p / sz*sz+p % sz=p by have:=Nat.div_add_mod p sz;rw[Nat.mul_comm]at this;omega]at hv'
 exact hv'
theorem ElemsG.allOne{f:Nat→Option (Array Value)} {sz:Nat} {xs:List PV} {L:List Value} (h0:0<sz) (h:ElemsG f (fun o=>L[o]?) 0 sz xs) (hl:L.length≤xs.length*sz):∀ v∈L,v.oneCell'=true:=by
 intro v hv
 obtain⟨p,hp⟩:=List.getElem?_of_mem hv
 have hlt:=(List.getElem?_eq_some_iff.1 hp).1
 obtain⟨u,hu,ho⟩:=ElemsG.oneAt h0 h (p:=p) (by omega)
 rw[hp]at hu
 cases hu;exact ho
theorem run_copyInto{c:Ctx} {P:Program} {w:World} (C:CtxOk c P) {dt xt ty e sz b o dLen dCap sb so sLen sCap:Nat} {vs svs:Array Value} {e' es:TypeId} {z zs:Nat×Nat} {m:Nat} (hd:c.under dt=some (.slice e)) (hs:sizeOf? c e=some sz)
  (hb:w.heap[b]?=some (.cells vs e' z)) (hz:soft z vs.size) (hsb:w.heap[sb]?=some (.cells svs es zs)) (hm:Nat.min sLen dLen=m)
  (hsl:so+m*sz≤svs.size) (hdl:o+m*sz≤vs.size) (h1:∀ v∈(svs.toList.drop so).take (m*sz),v.oneCell'=true) :
  ∃ w' vs',(Builtin.copy_ #[dt,xt] ty #[.slice (some ⟨b,o,none⟩) dLen dCap,.slice (some ⟨sb,so,none⟩) sLen sCap]).run P w=.ok (goInt (m:Nat)) w'∧w'.heap[b]?=some (.cells vs' e' z) ∧
   vs'.toList=vs.toList.take o++((svs.toList.drop so).take (m*sz)++vs.toList.drop (o+m*sz)) ∧
   w'.os=w.os∧w'.tape=w.tape∧w'.output=w.output∧w'.heap.size=w.heap.size∧∀ k,k ≠ b→w'.heap[k]?=w.heap[k]?:=by
 have hlen:((svs.toList.drop so).take (m*sz)).length=m*sz:=by simp;omega
 have hload:(Builtin.firstCells sz (Nat.min sLen dLen) (.slice (some ⟨sb,so,none⟩) sLen sCap)).run P w=.ok ((svs.toList.drop so).take (m*sz)).toArray w:=by
  rw[hm]
  refine run_firstCells_some w sz m ⟨sb,so,none⟩ sLen sCap _ hlen ?_
  intro j v hj
  rw[addr_add,cell_cells hsb]
  rw[List.getElem?_take]at hj
  split at hj
  ·rw[List.getElem?_drop]at hj;simpa using hj
  ·cases hj
 obtain⟨w',cur',hr,k1,k2,k3,k4,k5,k6,k7⟩:=run_storeCells (P:=P) (b:=b) (o:=o) ((svs.toList.drop so).take (m*sz)) 0 vs w hb hz (by omega) h1
 refine⟨w',cur',?_,k1,?_,k3,k4,k5,k6,k7⟩
 ·rw[run_copy C hd hs (m:=sLen) (cs:=(svs.toList.drop so).take (m*sz)) (by simp [Builtin.lenOf]) hload]
  simp only[hr,Result.andThen_ok,hm]
  rfl
 ·rw[k2]
  simp only[Nat.add_zero,hlen]
theorem getElem?_three{α:Type} {vs:Array α} (h:vs.toList.length=3):∃ a b c,vs = #[a,b,c]:=by
 rcases hh:vs.toList with _|⟨a,_|⟨b,_|⟨c,_|⟨d,t⟩⟩⟩⟩<;>rw[hh]at h<;>simp at h
 exact⟨a,b,c,by rw[← Array.toArray_toList (xs:=vs),hh]⟩
section
variable {c:Ctx} {P:Program} {F T TV OV e sz bytes:Nat} {ti:TypeInfo}
theorem insEnd_ok(C:CtxOk c P) (Wk:InsWalks P F T TV OV sz) (hT:c.under T=some (.slice e)) (hTV:c.under TV=some (.slice e)) {E:Rn} {h h':List Ob} {w:World} {e1:AEnd} {X:AV} {base:Option Addr} {n cap vb voff vc:Nat} {V:AV}
  (W:WR E h w) (hX:VR E X (.slice base n cap)) (hV:VR E V (.slice (some ⟨vb,voff,none⟩) 1 vc)) (hn:n<9223372036854775807) (hle:n≤cap) (ho:insEnd (append? c h e X V) h=some (e1,h')) :
  ∃ v,e1=.ret v∧∃ r w',Calls P F #[.slice base n cap,.int .i64 n,.slice (some ⟨vb,voff,none⟩) 1 vc] w (fun e w''=>e=.returned r∧w''=w')∧∃ E',Adv E h w E' h' w'∧VR E' v r:=by
 obtain⟨k1,rfl,rfl⟩:=insEnd_eq ho
 obtain⟨r,w',hr,E',A,hv⟩:=append_ok (ty:=0) (xt:=TV) C W hT (.inl ⟨e,hTV⟩) hX hV k1
 exact⟨_,rfl,r,w',Wk.fin w w' base n cap vb voff vc r hle hn (fun ty=>hr),E',A,hv⟩
theorem insMid_ok(C:CtxOk c P) (Wk:InsWalks P F T TV OV sz) (hT:c.under T=some (.slice e)) (hTV:c.under TV=some (.slice e)) (h3:c.under 3=some (.int .i64)) (hOV:c.ext OV=some .overlaps)
  (hti:c.info e=some ti) (hsz:ti.size=sz) (hby:ti.bytes=bytes) (hb1:1≤bytes) {z0:PV} (hz0:zero? c e=some z0) (hzl:z0.cells.length=sz) (h0:0<sz)
  {E:Rn} {h h':List Ob} {w:World} {e1:AEnd} {i g len k j g2 off2:Nat} {x:PV} {v1 v3:Value}
  (W:WR E h w) (l1:VR E (.sl i g sz 0 len) v1) (l3:VR E (.sl j g2 sz off2 1) v3) (hij:i ≠ j) (hk:k<len) (hx:rowOne h j g2 sz off2=some x) (h5:e ≠ 5)
  (ho:insMid e sz bytes h i g len k x=some (e1,h')) :
  ∃ v,e1=.ret v∧∃ r w',Calls P F #[v1,.int .i64 k,v3] w (fun e w''=>e=.returned r∧w''=w')∧∃ E',Adv E h w E' h' w'∧VR E' v r:=by
 unfold insMid at ho
 split at ho
 ·rename_i e' sz' xs ex g' hrow
  cases hc:(Nat.beq g g'&&(Nat.beq sz sz'&&(Nat.beq len xs.length&&(Nat.beq e e'&&Nat.ble ((len+1)*bytes) 140737488355328))))with
  |false=>rw[hc]at ho;cases ho
  |true=>
   rw[hc]at ho
   simp only[cond,forceN_eq,lnf_eq,hsetK_eq,Option.some.injEq,Prod.mk.injEq]at ho
   obtain⟨rfl,rfl⟩:=ho
   simp only[Bool.and_eq_true,Nat.beq_eq]at hc
   obtain⟨rfl,rfl,rfl,rfl,hble⟩:=hc
   have hroom:=Nat.le_of_ble_eq_true hble
   cases l1 with
   | @sl _ _ _ _ _ b ntot cap ha hcp hle _=>
   simp only[Nat.zero_mul]
   rw[Nat.zero_add]at hcp
   obtain⟨vs,z,hblk,hvs,hz,_,hxn,hex,hel⟩:=row_lies W hrow ha
   cases l3 with
   | @sl _ _ _ _ _ vb nv capv hav hcpv hlev _=>
   unfold rowOne at hx
   split at hx
   ·rename_i ej szj xs2 exj gj hrow2
    cases hc2:(Nat.beq g2 gj&&(Nat.beq sz szj && !Nat.beq ej 5))with
    |false=>rw[hc2]at hx;cases hx
    |true=>
     rw[hc2]at hx
     simp only[cond,pget_eq]at hx
     simp only[Bool.and_eq_true,Nat.beq_eq,Bool.not_eq_true']at hc2
     obtain⟨rfl,rfl,h5j⟩:=hc2
     have h5j:ej ≠ 5:=fun q=>by subst q;cases h5j
     obtain⟨vs2,z2,hblk2,hvs2,hz2,_,hxn2,_,hel2⟩:=row_lies W hrow2 hav
     have hi:i<h.length:=lt_of_hget (by rw[hrow];rfl)
     have hj:j<h.length:=lt_of_hget (by rw[hrow2];rfl)
     have hvb:vb ≠ b:=by
      intro hh
      subst hh
      exact hij (W.inj i j vb ntot nv hi hj (by rw[hrow];exact ha) (by rw[hrow2];exact hav) (by rw[hrow];rfl) (by rw[hrow2];rfl))
     have hoff2:off2<xs2.length:=(List.getElem?_eq_some_iff.1 hx).1
     have hm1:(off2+1)*sz≤xs2.length*sz:=Nat.mul_le_mul_right _ hoff2
     rw[Nat.add_mul,Nat.one_mul]at hm1
     have hm2:(k+1)*sz≤xs.length*sz:=Nat.mul_le_mul_right _ hk
     have hm3:xs.length*sz≤cap*sz:=Nat.mul_le_mul_right _ hle
     have hksz:(k+1)*sz=k*sz+sz:=by rw[Nat.add_mul,Nat.one_mul]
     have hlk:(xs.length-k)*sz=xs.length*sz-k*sz:=by rw[Nat.sub_mul]
     have hn63:xs.length<9223372036854775807:=by
      have:(xs.length+1)*1≤(xs.length+1)*bytes:=Nat.mul_le_mul_left _ hb1
      omega
     have hdsz:sizeOf? c e=some sz:=by unfold sizeOf?;rw[hti];simp [hsz]
     -- the cells of x, and of what comes behind it
     have hxV:(xs2.drop off2).take 1=[x]:=by
      rw[List.drop_eq_getElem_cons hoff2]
      have:=(List.getElem?_eq_some_iff.1 hx).2
      simp [this]
     have hVel:ElemsG E.f (fun o=>((vs2.toList.drop (off2*sz)).take (1*sz))[o]?) 0 sz [x]:=by
      have:=ElemsG.cut (L:=vs2.toList) (by simpa using hel2) off2 1
      rwa[hxV]at this
     have hVl:((vs2.toList.drop (off2*sz)).take (1*sz)).length=sz:=by simp;omega
     have hV1:∀ v∈(vs2.toList.drop (off2*sz)).take (1*sz),v.oneCell'=true:=ElemsG.allOne h0 hVel (by simp;omega)
     have hBel:ElemsG E.f (fun o=>((vs.toList.drop (k*sz)).take ((xs.length-k)*sz))[o]?) 0 sz (xs.drop k):=by
      have:=ElemsG.cut (L:=vs.toList) (by simpa using hel) k (xs.length-k)
      rw[show(xs.drop k).take (xs.length-k)=xs.drop k from List.take_of_length_le (by simp)]at this
      exact this
     have hBl:((vs.toList.drop (k*sz)).take ((xs.length-k)*sz)).length=(xs.length-k)*sz:=by simp;omega
     have hB1:∀ v∈(vs.toList.drop (k*sz)).take ((xs.length-k)*sz),v.oneCell'=true:=ElemsG.allOne h0 hBel (by simp;omega)
     have hAel:ElemsG E.f (fun o=>(vs.toList.take (k*sz))[o]?) 0 sz (xs.take k):=by
      have:=ElemsG.cut (L:=vs.toList) (by simpa using hel) 0 k
      simpa using this
     have hAl:(vs.toList.take (k*sz)).length=(xs.take k).length*sz:=by
      simp only[List.length_take,Array.length_toList]
      rw[Nat.min_eq_left (by omega),Nat.min_eq_left (by omega)]
     have hyl:(xs.take k++x::xs.drop k).length=xs.length+1:=by simp;omega
     have final:∀ (cells:List Value) (rest:List Value),cells=vs.toList.take (k*sz)++((vs2.toList.drop (off2*sz)).take (1*sz)++((vs.toList.drop (k*sz)).take ((xs.length-k)*sz)++rest)) →
       ElemsG E.f (fun o=>cells[o]?) 0 sz (xs.take k++x::xs.drop k):=by
      intro cells rest hcells
      have h1:=ElemsG.app (rest:=rest) hVel (by simpa using hVl) hBel
      have h2:=ElemsG.app (rest:=[]) hAel hAl h1
      rw[hcells]
      simpa using h2
     by_cases hcap:xs.length+1≤cap
     ·-- in place
      have hm4 : (xs.length + 1) * sz ≤ cap * sz := Nat.mul_le_mul_right _ hcap
      rw[Nat.add_mul,Nat.one_mul]at hm4
      have hwd:w.drew.heap=w.heap:=rfl
      obtain⟨w1,vs',r1,q1,q2,q3,q4,q5,q6,q7⟩:=run_copyInto (P:=P) (dt:=T) (xt:=T) (ty:=0) (w:=w.drew) (b:=b) (o:=(k+1)*sz) (dLen:=xs.length-k) (dCap:=0) (sb:=b) (so:=k*sz) (sLen:=xs.length+1-k) (sCap:=0) (m:=xs.length-k)
       C hT hdsz (by rw[hwd];exact hblk) (by rw[hvs];exact hz.1) (by rw[hwd];exact hblk) (by simp only[Nat.min_def];split<;>omega) (by omega) (by omega) hB1
      have hvs'l:vs'.size=vs.size:=by
       have:=congrArg List.length q2
       simp at this
       omega
      obtain⟨w2,vs'',r2,p1,p2,p3,p4,p5,p6,p7⟩:=run_copyInto (P:=P) (dt:=T) (xt:=TV) (ty:=0) (w:=w1) (b:=b) (o:=k*sz) (dLen:=xs.length+1-k) (dCap:=0) (sb:=vb) (so:=off2*sz) (sLen:=1) (sCap:=0) (m:=1)
       C hT hdsz q1 (by rw[hvs'l,hvs];exact hz.1) (by rw[q7 vb hvb];exact hblk2) (by simp only[Nat.min_def];split<;>omega) (by omega) (by omega) hV1
      have hvs''l:vs''.size=vs.size:=by
       have:=congrArg List.length p2
       simp at this
       omega
      have hcells:vs''.toList=vs.toList.take (k*sz)++((vs2.toList.drop (off2*sz)).take (1*sz)++((vs.toList.drop (k*sz)).take ((xs.length-k)*sz)++vs.toList.drop ((k+1)*sz+(xs.length-k)*sz))):=by
       rw[p2,q2]
       have e1:(vs.toList.take ((k+1)*sz)++((vs.toList.drop (k*sz)).take ((xs.length-k)*sz)++vs.toList.drop ((k+1)*sz+(xs.length-k)*sz))).take (k*sz)=vs.toList.take (k*sz):=by
        rw[List.take_append_of_le_length (by simp;omega),List.take_take,Nat.min_eq_left (by omega)]
       have e2:(vs.toList.take ((k+1)*sz)++((vs.toList.drop (k*sz)).take ((xs.length-k)*sz)++vs.toList.drop ((k+1)*sz+(xs.length-k)*sz))).drop (k*sz+1*sz)=(vs.toList.drop (k*sz)).take ((xs.length-k)*sz)++vs.toList.drop ((k+1)*sz+(xs.length-k)*sz):=by
        rw[List.drop_append_of_le_length (by simp;omega)]
        rw[List.drop_eq_nil_of_le (by simp;omega),List.nil_append]
       rw[e1,e2]
      have hcalls:=Wk.shift w w1 w2 b xs.length cap k vb (off2*sz) capv hk hcap hn63 ?_ (fun ty dc sc=>r1) (fun ty dc=>r2)
      ·refine⟨_,rfl,_,_,hcalls,?_⟩
       have A:=Adv.move W (i:=i) (g:=g+1) (b:=b) (n:=ntot) (k:=b) (m:=ntot) (o:=.row e sz (xs.take k++x::xs.drop k) false (g+1)) (w':=w2) (by rw[hrow];exact ha) (by rw[hrow];rfl) (by rw[hrow];rfl) rfl rfl (.inl rfl)
        (by rw[p6,q6];exact W.bnd _ _ _ _ ha)
        (by rw[p1];exact .row (by omega) (by rw[← hvs];rw[hvs];exact hz) h0 (by rw[hyl,Nat.add_mul,Nat.one_mul];omega) (by intro hh;cases hh) (by
         have:=final vs''.toList _ hcells
         simpa using this))
        (p3.trans q3) (p4.trans q4) (p5.trans q5) (by rw[p6,q6];exact Nat.le_refl _) (fun l _ hne=>by rw[p7 l hne,q7 l hne];rfl)
       refine⟨_,A,?_⟩
       have:=VR.sl (E:=E.put i (g+1) (b,ntot)) (i:=i) (g:=g+1) (sz:=sz) (off:=0) (len:=xs.length+1) (cap:=cap) (Rn.put_self _ _ _ _) (by rw[Nat.zero_add];exact hcp) hcap h0
       rw[Nat.zero_mul]at this
       exact this
      ·-- they do not overlap
       intro lb cb
       obtain⟨fn,hf,f1,f2,f3,f4,f5⟩:=C.ext OV _ hOV
       obtain⟨t',e',sz',g1,g2',g3⟩:=f5 rfl
       rw[run_callFunc_extern hf f1 f2 f3 f4]
       have:=run_overlaps_two (P:=P) (la:=1) (ca:=capv) (lb:=lb) (cb:=cb) (a:=⟨vb,off2*sz,none⟩) (b:=⟨b,(k+1)*sz,none⟩) g1 (C.under _ _ g2') (fun w=>run_sizeOf C g3 w) w hvb
        (tA:=ej) (tB:=e) (kA:=nv) (kB:=ntot) (by simp [World.shape?,hblk2,hvs2]) (by simp [World.shape?,hblk,hvs]) (frozen_soft hblk2 ⟨hz2,h5j⟩ (by omega)) (frozen_soft hblk ⟨hz,h5⟩ (by omega)) (frozen_soft hblk2 ⟨hz2,h5j⟩ (Nat.le_refl _)) (frozen_soft hblk ⟨hz,h5⟩ (Nat.le_refl _)) (rs:=fn.resultTypes)
       have h':((ExtK.overlaps.entry fn) #[.slice (some ⟨vb,off2*sz,none⟩) 1 capv,.slice (some ⟨b,(k+1)*sz,none⟩) lb cb]).run P w=.ok (.bool false) w:=this
       rw[h']
       rfl
     ·-- a new row
      have hcl : cap = xs.length := by omega
      obtain⟨tz,zv,hz1,hz2',hz3⟩:=zero_pr hz0
      rw[hti]at hz1
      cases hz1
      obtain⟨zs1,zs2,_,_⟩:=zeros_ok (f:=E.f) (hz3 E.f) hzl h0 (xs.length+1-k)
      have hold:(Builtin.firstCells ti.size k (.slice (some ⟨b,0,none⟩) k cap)).run P w.drew=.ok (vs.toList.take (k*sz)).toArray w.drew:=by
       rw[hsz]
       refine run_firstCells_some w.drew sz k ⟨b,0,none⟩ _ _ _ (by simp;omega) ?_
       intro p v hp
       rw[addr_add,cell_cells (show w.drew.heap[b]?=_ from hblk)]
       rw[List.getElem?_take]at hp
       split at hp
       ·simpa using hp
       ·cases hp
      have hkk:(xs.length:Int)+1-(k:Int)=((xs.length+1-k:Nat):Int):=by omega
      have hik:k+(xs.length+1-k)=xs.length+1:=by omega
      have hrz:=Go.Lib.run_append_grow_zeros (P:=P) w T 3 0 e ti zv .i64 .i64 (C.under _ _ hT) (C.under _ _ h3) (C.info _ _ hti) hz2' (some ⟨b,0,none⟩) k cap (vs.toList.take (k*sz)) hold (xs.length+1-k) (by omega) (by omega) (by omega) (by omega)
       (by rw[hby];have:(xs.length+1-k)*bytes≤(xs.length+1)*bytes:=Nat.mul_le_mul_right _ (by omega);omega)
       (by rw[hik,hby];exact growslice_fits (by omega) hroom)
      rw[hik]at hrz
      have hGge:=grownCap_ge w (xs.length+1) cap e
      generalize grownCap w (xs.length+1) cap e=G at hrz hGge
      have hzc:∀ q,(Builtin.zeroCells zv.cells q).size=q*sz:=fun q=>by simp [Builtin.zeroCells,zs1]
      generalize hR:((vs.toList.take (k*sz)).toArray++Builtin.zeroCells zv.cells (xs.length+1-k)++Builtin.zeroCells zv.cells (G-(xs.length+1)))=ROW at hrz
      have hRs:ROW.size=G*sz:=by
       rw[← hR]
       simp only[Array.size_append,hzc,List.size_toArray,List.length_take,Array.length_toList]
       rw[Nat.min_eq_left (by omega),Nat.sub_mul,Nat.sub_mul,Nat.add_mul,Nat.one_mul]
       have:(xs.length+1)*sz≤G*sz:=Nat.mul_le_mul_right _ hGge
       rw[Nat.add_mul,Nat.one_mul]at this
       omega
      have hRp:ROW.toList.take (k*sz)=vs.toList.take (k*sz):=by
       rw[← hR]
       simp only[Array.toList_append]
       rw[List.append_assoc,List.take_append_of_le_length (by simp;omega),List.take_of_length_le (by simp;omega)]
      have hGsz:(xs.length+1)*sz≤G*sz:=Nat.mul_le_mul_right _ hGge
      rw[Nat.add_mul,Nat.one_mul]at hGsz
      have hbw:b<w.heap.size:=W.bnd _ _ _ _ ha
      have hvw:vb<w.heap.size:=W.bnd _ _ _ _ hav
      let w1:World:=w.drew.alloc (.cells ROW e)
      have hw1N:w1.heap[w.heap.size]?=some (.cells ROW e (0,0)):=by
       show(w.heap.push _)[w.heap.size]?=_
       simp
      have hw1o:∀ l,l<w.heap.size→w1.heap[l]?=w.heap[l]?:=fun l hl=>by
       show(w.heap.push _)[l]?=_
       rw[Array.getElem?_push,if_neg (by omega)]
      have hsoft:∀ q,soft (0,0) q:=fun q o _=>by omega
      obtain⟨w2,vs',r1,q1,q2,q3,q4,q5,q6,q7⟩:=run_copyInto (P:=P) (dt:=T) (xt:=TV) (ty:=0) (w:=w1) (b:=w.heap.size) (o:=k*sz) (dLen:=xs.length+1-k) (dCap:=0) (sb:=vb) (so:=off2*sz) (sLen:=1) (sCap:=0) (m:=1)
       C hT hdsz hw1N (hsoft _) (by rw[hw1o vb hvw];exact hblk2) (by simp only[Nat.min_def];split<;>omega) (by omega) (by omega) hV1
      have hvs'l:vs'.size=ROW.size:=by
       have:=congrArg List.length q2
       simp at this
       omega
      obtain⟨w3,vs'',r2,p1,p2,p3,p4,p5,p6,p7⟩:=run_copyInto (P:=P) (dt:=T) (xt:=T) (ty:=0) (w:=w2.drew) (b:=w.heap.size) (o:=(k+1)*sz) (dLen:=xs.length-k) (dCap:=0) (sb:=b) (so:=k*sz) (sLen:=xs.length-k) (sCap:=0) (m:=xs.length-k)
       C hT hdsz q1 (hsoft _) (by show w2.heap[b]?=_;rw[q7 b (by omega),hw1o b hbw];exact hblk) (by simp) (by omega) (by omega) hB1
      have hvs''l:vs''.size=ROW.size:=by
       have:=congrArg List.length p2
       simp at this
       omega
      have hcells:vs''.toList=vs.toList.take (k*sz)++((vs2.toList.drop (off2*sz)).take (1*sz)++((vs.toList.drop (k*sz)).take ((xs.length-k)*sz)++vs'.toList.drop ((k+1)*sz+(xs.length-k)*sz))):=by
       rw[p2]
       have e1:vs'.toList.take ((k+1)*sz)=vs.toList.take (k*sz)++(vs2.toList.drop (off2*sz)).take (1*sz):=by
        rw[q2,hRp,← List.append_assoc,List.take_append_of_le_length (by simp;omega),List.take_of_length_le (by simp;omega)]
       rw[e1,List.append_assoc]
      have hcalls:=Wk.grow w w1 w2 w3 b xs.length cap k vb (off2*sz) capv w.heap.size G hk hle (by omega) hn63 hGge (fun ty=>by rw[hkk];exact hrz) (fun ty dc=>r1) (fun ty dc sc=>r2)
      refine⟨_,rfl,_,_,hcalls,?_⟩
      have hsz3:w3.heap.size=w.heap.size+1:=by
       rw[p6]
       show w2.heap.size=_
       rw[q6]
       show(w.heap.push _).size=_
       simp
      have A:=Adv.move W (i:=i) (g:=g+1) (b:=b) (n:=ntot) (k:=w.heap.size) (m:=G*sz) (o:=.row e sz (xs.take k++x::xs.drop k) false (g+1)) (w':=w3) (by rw[hrow];exact ha) (by rw[hrow];rfl) (by rw[hrow];rfl) rfl rfl (.inr (Nat.le_refl _))
       (by rw[hsz3];omega)
       (by rw[p1];exact .row (by omega) (soft00 _ _) h0 (by rw[hyl,Nat.add_mul,Nat.one_mul];omega) (by intro hh;cases hh) (by
        have:=final vs''.toList _ hcells
        simpa using this))
       (p3.trans q3) (p4.trans q4) (p5.trans q5) (by rw[hsz3];omega) (fun l hl hne=>by
        rw[p7 l (by omega)]
        show w2.heap[l]?=_
        rw[q7 l (by omega),hw1o l hl])
      refine⟨_,A,?_⟩
      have:=VR.sl (E:=E.put i (g+1) (w.heap.size,G*sz)) (i:=i) (g:=g+1) (sz:=sz) (off:=0) (len:=xs.length+1) (cap:=G) (Rn.put_self _ _ _ _) (by rw[Nat.zero_add]) hGge h0
      rw[Nat.zero_mul]at this
      exact this
   ·cases hx
 ·cases ho
theorem insMid_ret{h h':List Ob} {e1:AEnd} {i g len k:Nat} {x:PV} (ho:insMid e sz bytes h i g len k x=some (e1,h')):∃ v,e1=.ret v:=by
 unfold insMid at ho
 split at ho
 ·rename_i e' sz' xs ex g' hrow
  cases hc:(Nat.beq g g'&&(Nat.beq sz sz'&&(Nat.beq len xs.length&&(Nat.beq e e'&&Nat.ble ((len+1)*bytes) 140737488355328))))with
  |false=>rw[hc]at ho;cases ho
  |true=>
   rw[hc]at ho
   simp only[cond,forceN_eq,lnf_eq,hsetK_eq,Option.some.injEq,Prod.mk.injEq]at ho
   exact⟨_,ho.1.symm⟩
 ·cases ho
theorem insO_ok(C:CtxOk c P) (Wk:InsWalks P F T TV OV sz) (hT:c.under T=some (.slice e)) (hTV:c.under TV=some (.slice e)) (h3:c.under 3=some (.int .i64)) (hOV:c.ext OV=some .overlaps)
  (hti:c.info e=some ti) (hsz:ti.size=sz) (hby:ti.bytes=bytes) (hb1:1≤bytes) {z0:PV} (hz0:zero? c e=some z0) (hzl:z0.cells.length=sz) (h0:0<sz) (h5:e ≠ 5)
  {args:List AV} {h h':List Ob} {e1:AEnd} (ho:insO c e sz bytes args h=some (e1,h')):CallAt c P (.fn F args) h none e1 h' none:=by
 unfold insO at ho
 split at ho
 ·rename_i s k v
  split at ho
  ·rename_i kp j g2 sz2 off2 l2
   split at ho
   ·rename_i kk zk
    split at ho
    ·rename_i kn
     cases hc:(Nat.beq (knd kk) 3&&(Nat.beq sz sz2&&Nat.beq l2 1))with
     |false=>rw[hc]at ho;cases ho
     |true=>
      rw[hc]at ho
      simp only[cond]at ho
      simp only[Bool.and_eq_true,Nat.beq_eq]at hc
      obtain⟨c1,rfl,rfl⟩:=hc
      have hkk:kk=.i64:=knd_inj (by show Nat.beq (knd kk) (knd .i64)=true;rw[c1];rfl)
      subst hkk
      cases hx:rowOne h j g2 sz off2 with
      |none=>rw[hx]at ho;cases ho
      |some x=>
       rw[hx]at ho
       simp only at ho
       have three:∀ (E:Rn) (vs:Array Value),LR E [s,.p (.int .i64 (.ofNat kn)),.sl j g2 sz off2 1] vs.toList→∃ v1 vb capv,vs = #[v1,.int .i64 kn,.slice (some ⟨vb,off2*sz,none⟩) 1 capv]∧VR E s v1∧VR E (.sl j g2 sz off2 1) (.slice (some ⟨vb,off2*sz,none⟩) 1 capv):=by
        intro E vs l
        obtain⟨v1,v2,v3,rfl⟩:=getElem?_three (vs:=vs) (by rw[← l.1];rfl)
        have a1:VR E s v1:=l.2 0 _ v1 rfl rfl
        have a2:VR E (.p (.int .i64 (.ofNat kn))) v2:=l.2 1 _ v2 rfl rfl
        have a3:VR E (.sl j g2 sz off2 1) v3:=l.2 2 _ v3 rfl rfl
        have a2':=a2.p_inv
        cases a2'
        cases a3 with
        | @sl _ _ _ _ _ vb nv capv hav hcpv hlev hs=>
         exact⟨v1,vb,capv,rfl,a1,.sl hav hcpv hlev hs⟩
       split at ho
       ·rename_i i g sz1 off len
        cases hc2:(Nat.beq sz sz1&&Nat.beq off 0)with
        |false=>rw[hc2]at ho;cases ho
        |true=>
         rw[hc2]at ho
         simp only[Bool.and_eq_true,Nat.beq_eq]at hc2
         obtain⟨rfl,rfl⟩:=hc2
         simp only[cond]at ho
         cases hkl:Nat.beq kn len with
         |true=>
          rw[hkl]at ho
          have:=Nat.eq_of_beq_eq_true hkl
          subst this
          cases hlt:Nat.blt kn 9223372036854775807 with
          |false=>rw[hlt]at ho;cases ho
          |true=>
           rw[hlt]at ho
           simp only at ho
           obtain⟨_,rfl,_⟩:=insEnd_eq ho
           refine callAt_of_calls Wk.enter fun E w W G vs l=>?_
           obtain⟨v1,vb,capv,rfl,a1,a3⟩:=three E vs l
           have a1':=a1
           cases a1 with
           | @sl _ _ _ _ _ b ntot cap ha hcp hle hs=>
            obtain⟨v,hv,r,w',k1,k2⟩:=insEnd_ok C Wk hT hTV W a1' a3 (Nat.le_of_ble_eq_true hlt) hle ho
            cases hv
            exact⟨r,w',k1,k2⟩
         |false=>
          rw[hkl]at ho
          simp only at ho
          cases hc3:(Nat.blt kn len && !Nat.beq i j)with
          |false=>rw[hc3]at ho;cases ho
          |true=>
           rw[hc3]at ho
           simp only[Bool.and_eq_true]at hc3
           have hij:i ≠ j:=by
            intro hh;subst hh
            have:=hc3.2
            simp at this
           obtain⟨v,rfl⟩:=insMid_ret ho
           refine callAt_of_calls Wk.enter fun E w W G vs l=>?_
           obtain⟨v1,vb,capv,rfl,a1,a3⟩:=three E vs l
           obtain⟨v',hv,r,w',k1,k2⟩:=insMid_ok C Wk hT hTV h3 hOV hti hsz hby hb1 hz0 hzl h0 W a1 a3 hij (Nat.le_of_ble_eq_true hc3.1) hx h5 ho
           cases hv
           exact⟨r,w',k1,k2⟩
       ·split at ho
        ·cases hk0:Nat.beq kn 0 with
         |false=>rw[hk0]at ho;cases ho
         |true=>
          rw[hk0]at ho
          have:=Nat.eq_of_beq_eq_true hk0
          subst this
          simp only[cond]at ho
          obtain⟨_,rfl,_⟩:=insEnd_eq ho
          refine callAt_of_calls Wk.enter fun E w W G vs l=>?_
          obtain⟨v1,vb,capv,rfl,a1,a3⟩:=three E vs l
          have a1':=a1.p_inv
          cases a1' with
          |nils=>
           obtain⟨v,hv,r,w',k1,k2⟩:=insEnd_ok C Wk hT hTV W a1 a3 (by omega) (Nat.le_refl 0) ho
           cases hv
           exact⟨r,w',k1,k2⟩
        ·cases ho
       ·cases ho
    ·cases ho
   ·cases ho
  ·cases ho
 ·cases ho
end
def pureT:AV→Bool
 |.p _=>true
 |.tup l=>(match allP l with|some _=>true|none=>false)
 |_=>false
def Rn.none(E:Rn):Rn:={a:=fun _ _=>Option.none,f:=E.f}
theorem pureT_ok{E v x} (hp:pureT v=true) (h:VR E v x):VR E.none v x:=by
 unfold pureT at hp
 split at hp
 ·exact .p h.p_inv
 ·rename_i l
  split at hp
  ·rename_i ps hl
   have:=allP_ok hl
   subst this
   cases h with
   | @tup _ vs hlen hq=>
    refine .tup hlen fun i y v hy hv=>?_
    obtain⟨q,hq1,rfl⟩:=map_get hy
    exact .p (hq i _ v hy hv).p_inv
  ·cases hp
 ·cases hp
theorem Adv.dropAll{E w E' h' w'} (W0:WR E [] w) (A:Adv E [] w E' h' w'):Adv E [] w E'.none [] w':=by
 have W:=A.wr
 have hnone:∀ i g,E.a i g=none:=fun i g=>W0.new i g (Nat.zero_le _)
 refine⟨⟨fun i g x hx=>(by rw[hnone]at hx;cases hx),A.le.f⟩,⟨fun i g b n ha=>(by cases ha),W.frz,fun i b n _ ha=>(by cases ha),fun i b n _ ha=>(by cases ha),fun i j b n m _ _ ha=>(by cases ha),fun _ _ _ _=>rfl,fun _ _ _=>rfl,fun i g x _ hx=>(by cases hx)⟩,A.keep,fun i b n hi=>(by simp at hi),?_,Nat.le_refl _,fun i hi=>(by simp at hi)⟩
 intro b vs h1 h2 hb
 exact A.fgain b vs h1 h2 hb
theorem callAt_drop{c:Ctx} {P:Program} {F:FuncId} {args:List AV} {v:AV} {h':List Ob} (H:CallAt c P (.fn F args) [] none (.ret v) h' none) (hp:pureT v=true) :
  CallAt c P (.fn F args) [] none (.ret v) [] none:=by
 intro E w u W G hu vs l
 obtain⟨h1,h2⟩:=H E w u W G hu vs l
 refine⟨h1,fun cs hcs=>?_⟩
 obtain⟨E',w',u',fr,x,A,k1,k2,k3,k4⟩:=h2 cs hcs
 exact⟨E'.none,w',u',fr,x,A.dropAll W,fun m hm=>(by cases hm),k2,pureT_ok hp k3,k4⟩
noncomputable def retIs(x:Option CR) (v:AV):Bool:=
 match x with
 |some x=>(match x with | .mk e _ r=>(match e with | .ret u=>(match r with|Option.none=>AV.same u v|_=>false)|_=>false))
 |Option.none=>false
theorem retIs_ok{x v} (h:retIs x v=true):∃ h',x=some (.mk (.ret v) h' Option.none):=by
 unfold retIs at h
 split at h
 ·rename_i y
  obtain⟨e,h',r⟩:=y
  cases e with
  |pan u=>cases h
  |ret u=>
   cases r with
   |some m=>cases h
   |none=>exact⟨h',by rw[AV.same_eq u v h]⟩
 ·cases h
theorem memo_ok{c:Ctx} {P:Program} {o:Orc} (C:CtxOk c P) (hO:OrcOk c P o) {k:Nat} {F:FuncId} {args:List AV} {v:AV} (h:retIs (callN c o k (.fn F args) [] Option.none) v=true) (hp:pureT v=true) :
  CallAt c P (.fn F args) [] Option.none (.ret v) [] Option.none:=by
 obtain⟨h',hx⟩:=retIs_ok h
 exact callAt_drop (callN_ok C hO k _ _ _ _ _ _ hx) hp
def lookS(s:List UInt8):List (List UInt8×PV)→Option PV
 | []=>Option.none
 | (t,v)::l=>cond (beqBytes s t) (some v) (lookS s l)
noncomputable def memoS(F:Nat) (tab:List (List UInt8×PV)) (o:Orc):Orc:=fun f args h=>
 cond (Nat.beq f F) (match args,h with
  | [a],[]=>(match a with
   |.p p=>(match p with
    |.str s=>(match lookS s tab with|some v=>some (.ret (.p v),[])|Option.none=>o f args h)
    |_=>o f args h)
   |_=>o f args h)
  |_,_=>o f args h) (o f args h)
theorem lookS_mem{s v}:∀ {tab},lookS s tab=some v→(s,v)∈tab:=by
 intro tab
 induction tab with
 |nil=>intro h;cases h
 |cons x tab ih=>
  obtain⟨t,u⟩:=x
  intro h
  unfold lookS at h
  cases hb:beqBytes s t with
  |true=>
   rw[hb]at h
   rw[beqBytes_eq]at hb
   have:=of_decide_eq_true hb
   subst this
   cases h
   exact List.mem_cons_self ..
  |false=>rw[hb]at h;exact List.mem_cons_of_mem _ (ih h)
theorem memoS_ok{c:Ctx} {P:Program} {F:Nat} {tab:List (List UInt8×PV)} {o:Orc} (hO:OrcOk c P o)
  (ht:∀ s v,(s,v)∈tab→CallAt c P (.fn F [.p (.str s)]) [] Option.none (.ret (.p v)) [] Option.none):OrcOk c P (memoS F tab o):=by
 intro f args h e h' ho
 unfold memoS at ho
 cases hf:Nat.beq f F with
 |false=>rw[hf]at ho;exact hO _ _ _ _ _ ho
 |true=>
  rw[hf]at ho
  have:=Nat.eq_of_beq_eq_true hf
  subst this
  simp only[cond]at ho
  split at ho
  ·split at ho
   ·split at ho
    ·split at ho
     ·rename_i v hv
      cases ho
      exact ht _ v (lookS_mem hv)
     ·exact hO _ _ _ _ _ ho
    ·exact hO _ _ _ _ _ ho
   ·exact hO _ _ _ _ _ ho
  ·exact hO _ _ _ _ _ ho
noncomputable def memoC(F:Nat) (v:AV) (o:Orc):Orc:=fun f args h=>
 cond (Nat.beq f F) (match args,h with
  | [],[]=>some (.ret v,[])
  |_,_=>o f args h) (o f args h)
theorem memoC_ok{c:Ctx} {P:Program} {F:Nat} {v:AV} {o:Orc} (hO:OrcOk c P o) (ht:CallAt c P (.fn F []) [] Option.none (.ret v) [] Option.none):OrcOk c P (memoC F v o):=by
 intro f args h e h' ho
 unfold memoC at ho
 cases hf:Nat.beq f F with
 |false=>rw[hf]at ho;exact hO _ _ _ _ _ ho
 |true=>
  rw[hf]at ho
  have:=Nat.eq_of_beq_eq_true hf
  subst this
  simp only[cond]at ho
  split at ho
  ·cases ho;exact ht
  ·exact hO _ _ _ _ _ ho
theorem noneOrc_ok(c:Ctx) (P:Program):OrcOk c P (fun _ _ _=>Option.none):=fun f args h e h' ho=>by cases ho
noncomputable def orElse(F:Nat) (g:List AV→List Ob→Option (AEnd×List Ob)) (o:Orc):Orc:=fun f args h=>cond (Nat.beq f F) (g args h) (o f args h)
theorem orElse_ok{c:Ctx} {P:Program} {F:Nat} {g:List AV→List Ob→Option (AEnd×List Ob)} {o:Orc} (hO:OrcOk c P o)
  (hg:∀ args h e h',g args h=some (e,h')→CallAt c P (.fn F args) h Option.none e h' Option.none):OrcOk c P (orElse F g o):=by
 intro f args h e h' ho
 unfold orElse at ho
 cases hf:Nat.beq f F with
 |false=>rw[hf]at ho;exact hO _ _ _ _ _ ho
 |true=>
  rw[hf]at ho
  have:=Nat.eq_of_beq_eq_true hf
  subst this
  exact hg _ _ _ _ ho
def lookA(s:List PV):List (List PV×PV)→Option PV
 | []=>Option.none
 | (t,v)::l=>cond (PV.sames s t) (some v) (lookA s l)
noncomputable def memoA(F:Nat) (tab:List (List PV×PV)) (o:Orc):Orc:=fun f args h=>
 cond (Nat.beq f F) (match allP args,h with
  |some s,[]=>(match lookA s tab with|some v=>some (.ret (.p v),[])|Option.none=>o f args h)
  |_,_=>o f args h) (o f args h)
theorem lookA_mem{s v}:∀ {tab},lookA s tab=some v→(s,v)∈tab:=by
 intro tab
 induction tab with
 |nil=>intro h;cases h
 |cons x tab ih=>
  obtain⟨t,u⟩:=x
  intro h
  unfold lookA at h
  cases hb:PV.sames s t with
  |true=>
   rw[hb]at h
   have:=PV.sames_eq s t hb
   subst this
   cases h
   exact List.mem_cons_self ..
  |false=>rw[hb]at h;exact List.mem_cons_of_mem _ (ih h)
theorem memoA_ok{c:Ctx} {P:Program} {F:Nat} {tab:List (List PV×PV)} {o:Orc} (hO:OrcOk c P o)
  (ht:∀ s v,(s,v)∈tab→CallAt c P (.fn F (s.map .p)) [] Option.none (.ret (.p v)) [] Option.none):OrcOk c P (memoA F tab o):=by
 intro f args h e h' ho
 unfold memoA at ho
 cases hf:Nat.beq f F with
 |false=>rw[hf]at ho;exact hO _ _ _ _ _ ho
 |true=>
  rw[hf]at ho
  have:=Nat.eq_of_beq_eq_true hf
  subst this
  simp only[cond]at ho
  split at ho
  ·rename_i s hs
   split at ho
   ·rename_i v hv
    cases ho
    rw[allP_ok hs]
    exact ht _ v (lookA_mem hv)
   ·exact hO _ _ _ _ _ ho
  ·exact hO _ _ _ _ _ ho
end Go.Ai
namespace Go.Ai
end Go.Ai

/- What is proved: calls, by what their values contain: calls by value, calls upon a pointer to cells, calls that change rows. Conditions: as before. -/
import Derived.Test.YtepjcfcfpjhpgaaGreatDoorPA10
set_option linter.all false
namespace Go.Ai
open Go
inductive L2 {α β:Type} (R:α→β→Prop):List α→List β→Prop
 |nil:L2 R [] []
 |cons {a b l m}:R a b→L2 R l m→L2 R (a::l) (b::m)
theorem L2.imp{α β:Type} {R S:α→β→Prop} {l m} (H:L2 R l m) (hi:∀ a b,R a b→S a b):L2 S l m:=by
 induction H with
 |nil=>exact .nil
 |cons h _ ih=>exact .cons (hi _ _ h) ih
theorem L2.length{α β:Type} {R:α→β→Prop} {l m} (H:L2 R l m):l.length=m.length:=by
 induction H with
 |nil=>rfl
 |cons _ _ ih=>simp [ih]
inductive CV where
 |pv (p:PV)
 |own (e:TypeId) (sz:Nat) (xs:List PV)
 |agg (l:List CV)
inductive Co1 (h:List Ob):AV→CV→Prop
 |p (x):Co1 h (.p x) (.pv x)
 |full (sz xs):Co1 h (.full sz xs) (.pv (.vec sz xs))
 |sl {i g sz off len xs ys} (hr:rowAt h i g sz=some xs) (hs:sub? xs off len=some ys):Co1 h (.sl i g sz off len) (.pv (.vec sz ys))
 |own {i g e sz xs ex} (hr:hget h i=.row e sz xs ex g):Co1 h (.sl i g sz 0 xs.length) (.own e sz xs)
inductive Co (h:List Ob):AV→CV→Prop
 |one {v p}:Co1 h v p→Co h v p
 |agg {cs ps}:L2 (Co1 h) cs ps→Co h (.agg cs) (.agg ps)
def ids1:AV→List Nat
 |.sl i _ _ _ _=>[i]
 |_=>[]
def idsA:AV→List Nat
 |.agg cs=>cs.flatMap ids1
 |v=>ids1 v
section
variable {h h':List Ob} {v:AV} {p:CV} {cs as:List AV} {ps:List CV}
theorem Co1.idsN(H:Co1 h v p) (k:Nat) (s:List Nat):Ai.idsN (k+1) v s=ids1 v++s:=by cases H<;>rfl
theorem Co1.idsA(H:Co1 h v p):Ai.idsA v=ids1 v:=by cases H<;>rfl
theorem L2.ids1(H:L2 (Co1 h) cs ps) (k:Nat) (s:List Nat):cs.foldr (Ai.idsN (k+1)) s=cs.flatMap Ai.ids1++s:=by
 induction H with
 |nil=>rfl
 |cons h1 _ ih=>rw[List.foldr_cons,ih,h1.idsN,List.flatMap_cons,List.append_assoc]
theorem Co.idsN(H:Co h v p) (k:Nat) (s:List Nat):Ai.idsN (k+2) v s=Ai.idsA v++s:=by
 cases H with
 |one h1=>rw[h1.idsN,h1.idsA]
 |agg hl=>exact hl.ids1 k s
theorem L2.idsF(H:L2 (Co h) as ps) (k:Nat) (s:List Nat):as.foldr (Ai.idsN (k+2)) s=as.flatMap Ai.idsA++s:=by
 induction H with
 |nil=>rfl
 |cons h1 _ ih=>rw[List.foldr_cons,ih,h1.idsN,List.flatMap_cons,List.append_assoc]
theorem L2.idsL(H:L2 (Co h) as ps) (s:List Nat):Ai.idsL as s=as.flatMap Ai.idsA++s:=by
 induction H with
 |nil=>rfl
 |cons h1 _ ih=>
  show Ai.idsN 6 _ (Ai.idsL _ s)=_
  rw[ih,h1.idsN,List.flatMap_cons,List.append_assoc]
theorem L2.idsL1(H:L2 (Co1 h) cs ps) (s:List Nat):Ai.idsL cs s=cs.flatMap Ai.ids1++s:=by
 induction H with
 |nil=>rfl
 |cons h1 _ ih=>
  show Ai.idsN 6 _ (Ai.idsL _ s)=_
  rw[ih,h1.idsN,List.flatMap_cons,List.append_assoc]
theorem rowAt_cases{i g sz xs} (hr:rowAt h i g sz=some xs):(∃ e ex,hget h i=.row e sz xs ex g)∨hget h i=.fr sz xs g:=by
 unfold rowAt at hr
 split at hr
 ·rename_i e s' ys ex g' he
  cases hb:(Nat.beq g g'&&Nat.beq sz s')with
  |false=>rw[hb]at hr;cases hr
  |true=>
   rw[hb]at hr
   simp only[Bool.and_eq_true,Nat.beq_eq]at hb
   cases hr
   obtain⟨rfl,rfl⟩:=hb
   exact .inl ⟨e,ex,he⟩
 ·rename_i s' ys g' he
  cases hb:(Nat.beq g g'&&Nat.beq sz s')with
  |false=>rw[hb]at hr;cases hr
  |true=>
   rw[hb]at hr
   simp only[Bool.and_eq_true,Nat.beq_eq]at hb
   cases hr
   obtain⟨rfl,rfl⟩:=hb
   exact .inr he
 ·cases hr
theorem rowAt_flat{i g sz xs} (hr:rowAt h i g sz=some xs):flat (hget h i)=true∧obGen (hget h i)=g:=by
 rcases rowAt_cases hr with⟨e,ex,he⟩|he<;>rw[he]<;>exact⟨rfl,rfl⟩
theorem Co1.flat(H:Co1 h v p):∀ i∈Ai.ids1 v,Ai.flat (hget h i)=true:=by
 cases H with
 |p=>intro i hi;cases hi
 |full=>intro i hi;cases hi
 |sl hr hs=>
  intro i hi
  rw[List.mem_singleton.1 hi]
  exact(rowAt_flat hr).1
 |own hr=>
  intro i hi
  rw[List.mem_singleton.1 hi,hr];rfl
theorem L2.flat1(H:L2 (Co1 h) cs ps):∀ i∈cs.flatMap Ai.ids1,Ai.flat (hget h i)=true:=by
 induction H with
 |nil=>intro i hi;cases hi
 |cons h1 _ ih=>
  intro i hi
  rw[List.flatMap_cons]at hi
  rcases List.mem_append.1 hi with hi|hi
  ·exact h1.flat i hi
  ·exact ih i hi
theorem Co.flat(H:Co h v p):∀ i∈Ai.idsA v,Ai.flat (hget h i)=true:=by
 cases H with
 |one h1=>rw[h1.idsA];exact h1.flat
 |agg hl=>exact hl.flat1
theorem L2.flat(H:L2 (Co h) as ps):∀ i∈as.flatMap Ai.idsA,Ai.flat (hget h i)=true:=by
 induction H with
 |nil=>intro i hi;cases hi
 |cons h1 _ ih=>
  intro i hi
  rw[List.flatMap_cons]at hi
  rcases List.mem_append.1 hi with hi|hi
  ·exact h1.flat i hi
  ·exact ih i hi
theorem Co1.keep(H:Co1 h v p) (hk:∀ i∈Ai.ids1 v,hget h' i=hget h i):Co1 h' v p:=by
 cases H with
 |p=>exact .p _
 |full=>exact .full _ _
 | @sl i g sz off len xs ys hr hs=>
  refine .sl ?_ hs
  have:=hk i (List.mem_singleton.2 rfl)
  unfold rowAt at hr ⊢
  rw[this];exact hr
 |own hr=>exact .own ((hk _ (List.mem_singleton.2 rfl)).trans hr)
theorem L2.keep1(H:L2 (Co1 h) cs ps) (hk:∀ i∈cs.flatMap Ai.ids1,hget h' i=hget h i):L2 (Co1 h') cs ps:=by
 induction H with
 |nil=>exact .nil
 |cons h1 _ ih=>
  rw[List.flatMap_cons]at hk
  exact .cons (h1.keep fun i hi=>hk i (List.mem_append_left _ hi)) (ih fun i hi=>hk i (List.mem_append_right _ hi))
theorem Co.keep(H:Co h v p) (hk:∀ i∈Ai.idsA v,hget h' i=hget h i):Co h' v p:=by
 cases H with
 |one h1=>rw[h1.idsA]at hk;exact .one (h1.keep hk)
 |agg hl=>exact .agg (hl.keep1 hk)
theorem hget_appL{h:List Ob} (e:List Ob) (i:Nat) (hi:i<h.length):hget (h++e) i=hget h i:=by
 rw[hget_eq,hget_eq,List.getElem?_append_left hi]
theorem Co1.ext(H:Co1 h v p) (e:List Ob):Co1 (h++e) v p:=H.keep fun i hi=>hget_appL _ _ (hget_flat_lt (H.flat i hi))
theorem Co.ext(H:Co h v p) (e:List Ob):Co (h++e) v p:=H.keep fun i hi=>hget_appL _ _ (hget_flat_lt (H.flat i hi))
theorem L2.ext1(H:L2 (Co1 h) cs ps) (e:List Ob):L2 (Co1 (h++e)) cs ps:=H.imp fun _ _ k=>k.ext e
theorem L2.ext(H:L2 (Co h) as ps) (e:List Ob):L2 (Co (h++e)) as ps:=H.imp fun _ _ k=>k.ext e
def Emb(r:RenF) (h h':List Ob):Prop:=∀ i g j g',r i g=some (j,g')→g=obGen (hget h i)∧hget h' j=renOb r g' (hget h i)∧(hasGen (hget h i)=true∨g'=0)
def Cov(r:RenF) (h:List Ob) (l:List Nat):Prop:=∀ i∈l,∃ j g',r i (obGen (hget h i))=some (j,g')
theorem Co1.ren{r:RenF} (E:Emb r h h') (H:Co1 h v p) (hc:Cov r h (Ai.ids1 v)) (k:Nat):Co1 h' (renN r (k+1) v) p:=by
 cases H with
 |p=>exact .p _
 |full=>exact .full _ _
 | @sl i g sz off len xs ys hr hs=>
  obtain⟨j,g',hj⟩:=hc i (List.mem_singleton.2 rfl)
  rw[(rowAt_flat hr).2]at hj
  obtain⟨_,he,_⟩:=E _ _ _ _ hj
  have:renN r (k+1) (.sl i g sz off len)=.sl j g' sz off len:=by
   show(match r i g with|some (j,g)=>AV.sl j g sz off len|none=>.un)=_
   rw[hj]
  rw[this]
  refine .sl ?_ hs
  rcases rowAt_cases hr with⟨e,ex,hq⟩|hq
  ·rw[hq]at he
   unfold rowAt
   rw[he]
   show cond (Nat.beq g' g'&&Nat.beq sz sz) (some xs) none=_
   rw[Nat.beq_refl,Nat.beq_refl];rfl
  ·rw[hq]at he
   unfold rowAt
   rw[he]
   show cond (Nat.beq g' g'&&Nat.beq sz sz) (some xs) none=_
   rw[Nat.beq_refl,Nat.beq_refl];rfl
 | @own i g e sz xs ex hr=>
  have hgen:obGen (hget h i)=g:=by rw[hr];rfl
  obtain⟨j,g',hj⟩:=hc i (List.mem_singleton.2 rfl)
  rw[hgen]at hj
  obtain⟨_,he,_⟩:=E _ _ _ _ hj
  have:renN r (k+1) (.sl i g sz 0 xs.length)=.sl j g' sz 0 xs.length:=by
   show(match r i g with|some (j,g)=>AV.sl j g sz 0 xs.length|none=>.un)=_
   rw[hj]
  rw[this]
  rw[hr]at he
  exact .own he
theorem Cov.left{r:RenF} {l m:List Nat} (hc:Cov r h (l++m)):Cov r h l:=fun i hi=>hc i (List.mem_append_left _ hi)
theorem Cov.right{r:RenF} {l m:List Nat} (hc:Cov r h (l++m)):Cov r h m:=fun i hi=>hc i (List.mem_append_right _ hi)
theorem L2.ren1{r:RenF} (E:Emb r h h') (H:L2 (Co1 h) cs ps) (hc:Cov r h (cs.flatMap Ai.ids1)) (k:Nat):L2 (Co1 h') (cs.map (renN r (k+1))) ps:=by
 induction H with
 |nil=>exact .nil
 |cons h1 _ ih=>
  rw[List.flatMap_cons]at hc
  exact .cons (h1.ren E hc.left k) (ih hc.right)
theorem Co.ren{r:RenF} (E:Emb r h h') (H:Co h v p) (hc:Cov r h (Ai.idsA v)) (k:Nat):Co h' (renN r (k+2) v) p:=by
 cases H with
 |one h1=>rw[h1.idsA]at hc;exact .one (h1.ren E hc _)
 |agg hl=>exact .agg (hl.ren1 E hc k)
theorem L2.ren{r:RenF} (E:Emb r h h') (H:L2 (Co h) as ps) (hc:Cov r h (as.flatMap Ai.idsA)) (k:Nat):L2 (Co h') (as.map (renN r (k+2))) ps:=by
 induction H with
 |nil=>exact .nil
 |cons h1 _ ih=>
  rw[List.flatMap_cons]at hc
  exact .cons (h1.ren E hc.left k) (ih hc.right)
theorem addNew_spec:∀ (l s:List Nat),s.Nodup→∃ s':List Nat,s'.Nodup∧(∀ {R:Type} (f:List Nat→R),addNew l s f=f s')∧(∀ i,i∈s'↔i∈l∨i∈s)∧∃ m,s'=s++m:=by
 intro l
 induction l with
 |nil=>intro s hs;exact⟨s,hs,fun f=>rfl,fun i=>by simp,[],by simp⟩
 |cons i l ih=>
  intro s hs
  cases he:elemN i s with
  |true=>
   obtain⟨s',h1,h2,h3,h4⟩:=ih s hs
   refine⟨s',h1,fun f=>?_,fun k=>?_,h4⟩
   ·rw[addNew_cons,he];exact h2 f
   ·rw[h3,List.mem_cons]
    have:=(elemN_iff i s).1 he
    constructor
    ·rintro(q|q)
     ·exact .inl (.inr q)
     ·exact .inr q
    ·rintro((rfl|q)|q)
     ·exact .inr this
     ·exact .inl q
     ·exact .inr q
  |false=>
   have hn:i ∉ s:=fun hm=>by rw[(elemN_iff i s).2 hm]at he;cases he
   obtain⟨s',h1,h2,h3,m,h4⟩:=ih (s++[i]) (by
    rw[List.nodup_append]
    refine⟨hs,by simp,?_⟩
    intro a ha b hb hab
    simp at hb;subst hb;subst hab;exact hn ha)
   refine⟨s',h1,fun f=>?_,fun k=>?_,i::m,by rw[h4];simp⟩
   ·rw[addNew_cons,he];simp only[cond,lnf_eq];exact h2 f
   ·rw[h3,List.mem_append,List.mem_singleton,List.mem_cons]
    constructor
    ·rintro(q|q|q)
     ·exact .inl (.inr q)
     ·exact .inr q
     ·exact .inl (.inl q)
    ·rintro((q|q)|q)
     ·exact .inr (.inr q)
     ·exact .inl q
     ·exact .inr (.inl q)
theorem inR_emb{ks:List Nat}:Emb (inR h ks) h (pick (inR h ks) h hget ks):=by
 intro i g j g' hr
 unfold inR at hr
 split at hr
 ·rename_i j' hp
  cases hb:Nat.beq (obGen (hget h i)) g with
  |false=>rw[hb]at hr;cases hr
  |true=>
   rw[hb]at hr
   cases hr
   exact⟨(Nat.eq_of_beq_eq_true hb).symm,pick_at (posOf_at hp),.inr rfl⟩
 ·cases hr
theorem inR_cov{ks l:List Nat} (hl:∀ i∈l,i∈ks):Cov (inR h ks) h l:=by
 intro i hi
 unfold inR
 cases hp:posOf i ks 0 with
 |none=>exact absurd (hl i hi) (posOf_none hp)
 |some j=>exact⟨j,0,by simp only[Nat.beq_refl,cond]⟩
theorem inner_fwd{c:Ctx} {o:Orc} {f:FuncId} {as as0:List AV} {h:List Ob} {ks ns:List Nat} {e:AEnd} {h':List Ob}
  (hks:∀ {R:Type} (F:List Nat→R),(addNew (idsL as []) [] fun s=>reach h 10000 0 s fun s=>lnf (ltN h.length s) F)=F ks)
  (has:renl (inR h ks) as=as0)
  (run:∃ k0,∀ k,k0≤k→callN c o k (.fn f as0) (pick (inR h ks) h hget ks) none=some (.mk e h' none))
  (hback:backOk h ks (h'.take ks.length)=true)
  (hns:∀ {R:Type} (F:List Nat→R),(addNew (idsEnd e (flatIds (h'.take ks.length) [])) [] fun s=>reach h' 10000 0 s fun s=>lnf (geN ks.length s) F)=F ns) :
  CS c o (.fn f as) h (renEnd (outR h ks h' ns) e) (putBack (outR h ks h' ns) h h ks (h'.take ks.length)++pick (outR h ks h' ns) h' hget ns):=by
 obtain⟨k0,h0⟩:=run
 refine⟨k0,fun k hk F=>?_⟩
 unfold inner
 show(addNew (idsL as []) [] fun s=>reach h 10000 0 s fun s=>lnf (ltN h.length s) fun ks=>innerGo (callN c o k) h ks (.fn f as) none F none)=_
 rw[hks]
 unfold innerGo
 rw[renCalleeK_eq,show renCallee (inR h ks) (.fn f as)=some (.fn f as0) by rw[← has];rfl]
 simp only
 rw[pickK_eq]
 show(match callN c o k (.fn f as0) (pick (inR h ks) h hget ks) none with
  |none=>none
  |some x=>innerBack h ks x F none)=_
 rw[h0 k hk]
 simp only
 unfold innerBack
 simp only[lnf_eq]
 rw[hback]
 simp only[cond]
 have:=hns (R:=Option Out) fun ns=>renEndK (outR h ks h' ns) e fun e=>renRMK (outR h ks h' ns) none fun r'=>
  putBackK (outR h ks h' ns) h h ks (h'.take ks.length) fun h1=>pickK (outR h ks h' ns) h' ns fun h2=>F (.mk e (h1++h2) r')
 simp only[lnf_eq]at this
 refine Eq.trans this ?_
 rw[renEndK_eq,renRMK_eq,putBackK_eq,pickK_eq]
 rfl
end
inductive QE where
 |val (q:CV)
 |vals (qs:List CV)
 |pan (q:PV)
 |ptr (e:TypeId) (qs:List CV)
inductive CoE (h:List Ob):AEnd→QE→Prop
 |val {v q}:Co h v q→CoE h (.ret v) (.val q)
 |vals {vs qs}:L2 (Co h) vs qs→CoE h (.ret (.tup vs)) (.vals qs)
 |pan (q):CoE h (.pan (.p q)) (.pan q)
 |ptr {j e cs qs}:hget h j=.cells e cs→L2 (Co1 h) cs qs→CoE h (.ret (.ptr j 0)) (.ptr e qs)
section
variable {h h':List Ob}
theorem reach_flat'{R:Type} (h:List Ob) (f:List Nat→R):∀ (k n:Nat) (s:List Nat),(∀ i∈s.drop n,flat (hget h i)=true)→reach h k n s f=f s:=by
 intro k
 induction k with
 |zero=>intro n s _;rfl
 |succ k ih=>
  intro n s hs
  show(match s.drop n with
   | []=>f s
   |i::_=>addNew (obIds (hget h i) []) s fun s=>forceN (n+1) fun n=>reach h k n s f)=f s
  split
  ·rfl
  ·rename_i i l e
   rw[flat_ids (hs i (by rw[e];exact List.mem_cons_self))]
   show forceN (n+1) (fun n=>reach h k n s f)=f s
   rw[forceN_eq]
   refine ih _ _ fun j hj=>hs j ?_
   have:s.drop (n+1)=l:=by rw[← List.drop_drop,e];rfl
   rw[this]at hj
   rw[e];exact List.mem_cons_of_mem _ hj
theorem reach_vals{l:List Nat} (hf:∀ i∈l,flat (hget h i)=true):∃ s':List Nat,s'.Nodup∧(∀ {R:Type} (F:List Nat→R),(addNew l [] fun s=>reach h 10000 0 s F)=F s')∧∀ i,i∈s'↔i∈l:=by
 obtain⟨s',h1,h2,h3,_⟩:=addNew_spec l [] List.nodup_nil
 refine⟨s',h1,fun F=>?_,fun i=>by rw[h3];simp⟩
 rw[h2]
 exact reach_flat' h F _ _ _ fun i hi=>hf i (by simpa using(h3 i).1 hi)
theorem reach_cells{i:Nat} {l:List Nat} {e cs qs} (hi:hget h i=.cells e cs) (hc:L2 (Co1 h) cs qs) (hf:∀ j∈l,flat (hget h j)=true) :
  ∃ m:List Nat,(i::m).Nodup∧(∀ {R:Type} (F:List Nat→R),(addNew (i::l) [] fun s=>reach h 10000 0 s F)=F (i::m))∧∀ j,j∈m↔j∈l∨j∈cs.flatMap ids1:=by
 have hni:flat (hget h i) ≠ true:=by rw[hi];exact Bool.false_ne_true
 obtain⟨s1,h1,h2,h3,m1,h4⟩:=addNew_spec l [i] (by simp)
 obtain⟨s2,g1,g2,g3,m2,g4⟩:=addNew_spec (obIds (hget h i) []) s1 h1
 have hob:obIds (hget h i) []=cs.flatMap ids1:=by
  rw[hi]
  show idsL cs []=_
  rw[hc.idsL1,List.append_nil]
 subst h4
 subst g4
 have hn:(i::(m1++m2)).Nodup:=by simpa using g1
 have hmem:∀ j,j∈m1++m2↔j∈l∨j∈cs.flatMap ids1:=by
  intro j
  have:=g3 j
  rw[hob,h3]at this
  simp only[List.mem_append,List.mem_singleton]at this ⊢
  have hne:j∈l∨j∈cs.flatMap ids1→j ≠ i:=by
   rintro(q|q) rfl
   ·exact hni (hf _ q)
   ·exact hni (hc.flat1 _ q)
  have hne2:(j∈m1∨j∈m2)→j ≠ i:=by
   rintro q rfl
   exact(List.nodup_cons.1 hn).1 (List.mem_append.2 q)
  constructor
  ·intro q
   rcases this.1 (by rcases q with q|q;exact .inl (.inr q);exact .inr q)with q'|q'|q'
   ·exact .inr q'
   ·exact .inl q'
   ·exact absurd q' (hne2 q)
  ·intro q
   rcases this.2 (by rcases q with q|q;exact .inr (.inl q);exact .inl q)with(q'|q')|q'
   ·exact absurd q' (hne q)
   ·exact .inl q'
   ·exact .inr q'
 refine⟨m1++m2,hn,fun F=>?_,hmem⟩
 rw[addNew_cons,show elemN i []=false from rfl]
 simp only[cond,lnf_eq,List.nil_append]
 rw[h2]
 show(match List.drop 0 ([i]++m1)with
  | []=>F ([i]++m1)
  |i::_=>addNew (obIds (hget h i) []) ([i]++m1) fun s=>forceN (0+1) fun n=>reach h 9999 n s F)=_
 simp only[List.drop_zero,List.singleton_append]
 have:=g2 (fun s=>forceN (0+1) fun n=>reach h 9999 n s F)
 simp only[List.singleton_append]at this
 rw[this,forceN_eq,reach_flat']
 ·rfl
 ·intro j hj
  have hj:j∈m1++m2:=by simpa using hj
  rcases(hmem j).1 hj with q|q
  ·exact hf _ q
  ·exact hc.flat1 _ q
theorem outR_emb{ks ns:List Nat} (hn:ks.Nodup) (hlt:∀ k∈ks,k<h.length) (hl:ks.length≤h'.length) (hback:backOk h ks (h'.take ks.length)=true) :
  Emb (outR h ks h' ns) h' (putBack (outR h ks h' ns) h h ks (h'.take ks.length)++pick (outR h ks h' ns) h' hget ns):=by
 intro i g j g' hr
 have hr0:=hr
 unfold outR at hr
 cases hb:Nat.beq (obGen (hget h' i)) g with
 |false=>rw[hb]at hr;cases hr
 |true=>
  rw[hb]at hr
  have hg:=(Nat.eq_of_beq_eq_true hb).symm
  refine⟨hg,?_⟩
  simp only[cond]at hr
  split at hr
  ·rename_i k hk
   rw[forceN_eq]at hr
   rw[nget_eq]at hk
   injection hr with hr
   injection hr with h1 h2
   have hik:i<ks.length:=(List.getElem?_eq_some_iff.1 hk).1
   have hkl:k<h.length:=hlt k (List.mem_of_getElem? hk)
   have ho:(h'.take ks.length)[i]?=some (hget h' i):=by
    rw[List.getElem?_take,if_pos hik,hget_eq,List.getElem?_eq_getElem (by omega)];rfl
   refine⟨?_,?_⟩
   ·rw[← h1,hget_appL _ _ (by rw[putBack_length];exact hkl),putBack_at _ _ _ _ _ i hn hk ho hkl,← h2,hg]
   ·rcases backOk_at hback hk ho with q|q
    ·exact .inl q
    ·rw[q]at h2
     rw[← h2,hg]
     cases ho':hget h' i with
     |row=>exact .inl rfl
     |fr=>exact .inl rfl
     |_=>exact .inr rfl
  ·split at hr
   ·rename_i j' hp
    rw[forceN_eq]at hr
    injection hr with hr
    injection hr with h1 h2
    rw[← h1,← h2]
    have:hget (putBack (outR h ks h' ns) h h ks (h'.take ks.length)++pick (outR h ks h' ns) h' hget ns) (h.length+j')=hget (pick (outR h ks h' ns) h' hget ns) j':=by
     rw[hget_eq,hget_eq,List.getElem?_append_right (by rw[putBack_length];omega),putBack_length]
     congr 2;omega
    exact⟨by rw[this,pick_at (posOf_at hp)],.inr rfl⟩
   ·cases hr
theorem outR_cov{ks ns l:List Nat} (hl:∀ i∈l,i<ks.length∨i∈ns):Cov (outR h ks h' ns) h' l:=by
 intro i hi
 unfold outR
 rw[Nat.beq_refl]
 simp only[cond]
 cases hk:nget ks i with
 |some k=>exact⟨_,_,by simp only[forceN_eq];rfl⟩
 |none=>
  simp only
  rw[nget_eq]at hk
  rcases hl i hi with q|q
  ·rw[List.getElem?_eq_getElem q]at hk;cases hk
  ·cases hp:posOf i ns 0 with
   |none=>exact absurd q (posOf_none hp)
   |some j=>exact⟨_,_,by simp only[forceN_eq];rfl⟩
theorem CoE.ren{r:RenF} {H:List Ob} {e:AEnd} {q:QE} (E:Emb r h H) (he:CoE h e q) (hc:Cov r h (idsEnd e [])) (hp:∀ j e' cs,e=.ret (.ptr j 0)→hget h j=.cells e' cs→Cov r h (cs.flatMap ids1)):CoE H (renEnd r e) q:=by
 cases he with
 |val hv=>
  have hc:Cov r h (idsN (4+2) _ []):=hc
  rw[hv.idsN,List.append_nil]at hc
  exact .val (hv.ren E hc 4)
 | @vals vs qs hv=>
  have hc:Cov r h (vs.foldr (idsN (3+2)) []):=hc
  rw[hv.idsF,List.append_nil]at hc
  exact .vals (hv.ren E hc 3)
 |pan q=>exact .pan q
 | @ptr j e' cs qs hj hv=>
  obtain⟨k,g',hk⟩:=hc j (by show j ∈ [j];simp)
  have hgen:obGen (hget h j)=0:=by rw[hj];rfl
  have hk0:=hk
  rw[hgen]at hk0
  obtain⟨_,h2,h3⟩:=E _ _ _ _ hk
  have hg':g'=0:=by
   rcases h3 with q|q
   ·rw[hj]at q;cases q
   ·exact q
  subst hg'
  have h1:renEnd r (.ret (.ptr j 0))=.ret (.ptr k 0):=by
   show AEnd.ret (ren0 r j (fun j=>.ptr j 0) .un)=_
   unfold ren0
   rw[hk0];rfl
  rw[h1]
  rw[hj]at h2
  exact .ptr h2 (hv.ren1 E (hp _ _ _ rfl hj) 5)
theorem geN_mem{n:Nat} {l:List Nat} {i:Nat}:i∈geN n l↔i∈l∧n≤i:=by rw[geN_eq];simp
theorem Co1.ren_from{r:RenF} {v:AV} {p:CV} (H:Co1 h v p) (k:Nat):∀ i'∈ids1 (renN r (k+1) v),∃ i∈ids1 v,∃ g g',r i g=some (i',g'):=by
 intro i' hi
 cases H with
 |p=>cases hi
 |full=>cases hi
 | @sl i g sz off len xs ys hr hs=>
  have hi:i'∈ids1 (match r i g with|some (j,g)=>AV.sl j g sz off len|none=>.un):=hi
  cases hq:r i g with
  |none=>rw[hq]at hi;cases hi
  |some y=>
   obtain⟨j,g'⟩:=y
   rw[hq]at hi
   have hi:i' ∈ [j]:=hi
   rw[List.mem_singleton.1 hi]
   exact⟨i,List.mem_singleton.2 rfl,g,g',hq⟩
 | @own i g e sz xs ex hr=>
  have hi:i'∈ids1 (match r i g with|some (j,g)=>AV.sl j g sz 0 xs.length|none=>.un):=hi
  cases hq:r i g with
  |none=>rw[hq]at hi;cases hi
  |some y=>
   obtain⟨j,g'⟩:=y
   rw[hq]at hi
   have hi:i' ∈ [j]:=hi
   rw[List.mem_singleton.1 hi]
   exact⟨i,List.mem_singleton.2 rfl,g,g',hq⟩
theorem L2.ren_from1{r:RenF} {cs:List AV} {ps:List CV} (H:L2 (Co1 h) cs ps) (k:Nat):∀ i'∈(cs.map (renN r (k+1))).flatMap Ai.ids1,∃ i∈cs.flatMap Ai.ids1,∃ g g',r i g=some (i',g'):=by
 induction H with
 |nil=>intro i' hi;cases hi
 |cons h1 _ ih=>
  intro i' hi
  rw[List.map_cons,List.flatMap_cons]at hi
  rw[List.flatMap_cons]
  rcases List.mem_append.1 hi with q|q
  ·obtain⟨i,a,b⟩:=h1.ren_from k i' q
   exact⟨i,List.mem_append_left _ a,b⟩
  ·obtain⟨i,a,b⟩:=ih i' q
   exact⟨i,List.mem_append_right _ a,b⟩
theorem Co.ren_from{r:RenF} {v:AV} {p:CV} (H:Co h v p) (k:Nat):∀ i'∈idsA (renN r (k+2) v),∃ i∈idsA v,∃ g g',r i g=some (i',g'):=by
 cases H with
 |one h1=>
  rw[h1.idsA]
  have h2:=h1.ren_from (r:=r) (k+1)
  cases h1 with
  |p=>exact h2
  |full=>exact h2
  | @sl i g sz off len xs ys hr hs=>
   intro i' hi
   refine h2 i' ?_
   have hi:i'∈idsA (match r i g with|some (j,g)=>AV.sl j g sz off len|none=>.un):=hi
   show i'∈ids1 (match r i g with|some (j,g)=>AV.sl j g sz off len|none=>.un)
   cases hq:r i g with
   |none=>rw[hq]at hi;exact hi
   |some y=>rw[hq]at hi;exact hi
  | @own i g e sz xs ex hr=>
   intro i' hi
   refine h2 i' ?_
   have hi:i'∈idsA (match r i g with|some (j,g)=>AV.sl j g sz 0 xs.length|none=>.un):=hi
   show i'∈ids1 (match r i g with|some (j,g)=>AV.sl j g sz 0 xs.length|none=>.un)
   cases hq:r i g with
   |none=>rw[hq]at hi;exact hi
   |some y=>rw[hq]at hi;exact hi
 |agg hl=>exact hl.ren_from1 k
theorem cs_valG(Fr:Prop) {c:Ctx} {o:Orc} {f:FuncId} {as:List AV} {ps:List CV} {qe:QE} (H:L2 (Co h) as ps)
  (hc:∀ h0 as0,L2 (Co h0) as0 ps→(as.flatMap idsA=[]→h0=[])→(∀ qs:List PV,as=qs.map .p→as0=as)→Ct c o (.fn f as0) h0 fun e h1=>(∃ ext,h1=h0++ext)∧CoE h1 e qe∧(Fr→∃ v q,e=.ret v∧Co h1 v q∧∀ i∈idsA v,h0.length≤i)) :
  ∃ e ext,CS c o (.fn f as) h e (h++ext)∧CoE (h++ext) e qe∧(Fr→∃ v,e=.ret v∧∀ i∈idsA v,h.length≤i):=by
 obtain⟨ks,hkn,hks,hkm⟩:=reach_vals (h:=h) (l:=as.flatMap idsA) H.flat
 have hkf:∀ i∈ks,flat (hget h i)=true:=fun i hi=>H.flat i ((hkm i).1 hi)
 have hlt:∀ i∈ks,i<h.length:=fun i hi=>hget_flat_lt (hkf i hi)
 have H0:L2 (Co (pick (inR h ks) h hget ks)) (renl (inR h ks) as) ps:=H.ren inR_emb (inR_cov fun i hi=>(hkm i).2 hi) 4
 have hsl:(pick (inR h ks) h hget ks).length=ks.length:=pick_length _ _ _
 obtain⟨e,h1,hrun,⟨ext,rfl⟩,he,hfr⟩:=hc _ _ H0 (fun q=>by
  have:ks=[]:=by
   cases hk:ks with
   |nil=>rfl
   |cons a l=>
    have:=(hkm a).1 (by rw[hk];exact List.mem_cons_self)
    rw[q]at this;cases this
  subst this;rfl) (fun qs q=>by
  subst q
  show(qs.map AV.p).map (ren _)=_
  rw[List.map_map];rfl)
 have htake:(pick (inR h ks) h hget ks++ext).take ks.length=pick (inR h ks) h hget ks:=by rw[← hsl,List.take_left]
 have hback:backOk h ks ((pick (inR h ks) h hget ks++ext).take ks.length)=true:=by rw[htake];exact backOk_flat _ _ _ hkf
 have hfl:flatIds ((pick (inR h ks) h hget ks++ext).take ks.length) []=[]:=by rw[htake];exact flatIds_flat _ _ _ hkf
 have small_flat:∀ j,j<ks.length→flat (hget (pick (inR h ks) h hget ks++ext) j)=true:=fun j hj=>by
  rw[hget_appL _ _ (by rw[hsl];exact hj),pick_get,List.getElem?_eq_getElem hj]
  exact flat_ren (hkf _ (List.getElem_mem hj)) _ _
 -- what is reached from the end
 obtain⟨ns0,hnn,hns,hnm,hp⟩:∃ ns0:List Nat,ns0.Nodup∧(∀ {R:Type} (F:List Nat→R),(addNew (idsEnd e (flatIds ((pick (inR h ks) h hget ks++ext).take ks.length) [])) [] fun s=>reach (pick (inR h ks) h hget ks++ext) 10000 0 s F)=F ns0) ∧
   (∀ i,i∈idsEnd e []→i∈ns0)∧∀ j e' cs,e=.ret (.ptr j 0)→hget (pick (inR h ks) h hget ks++ext) j=.cells e' cs→∀ i∈cs.flatMap ids1,i∈ns0:=by
  rw[hfl]
  cases he with
  | @val v q hv=>
   have hid:idsEnd (.ret v) []=idsA v:=by
    show idsN (4+2) v []=_
    rw[hv.idsN,List.append_nil]
   obtain⟨ns0,a1,a2,a3⟩:=reach_vals (l:=idsA v) hv.flat
   rw[hid]
   refine⟨ns0,a1,a2,fun i hi=>(a3 i).2 hi,fun j e' cs q1 q2=>?_⟩
   cases q1
   cases hv with
   |one h1=>cases h1
  | @vals vs qs hv=>
   have hid:idsEnd (.ret (.tup vs)) []=vs.flatMap idsA:=by
    show vs.foldr (idsN (3+2)) []=_
    rw[hv.idsF,List.append_nil]
   obtain⟨ns0,a1,a2,a3⟩:=reach_vals (l:=vs.flatMap idsA) hv.flat
   rw[hid]
   exact⟨ns0,a1,a2,fun i hi=>(a3 i).2 hi,fun j e' cs q1 q2=>by cases q1⟩
  |pan q=>
   obtain⟨ns0,a1,a2,a3⟩:=reach_vals (h:=pick (inR h ks) h hget ks++ext) (l:=[]) (fun i hi=>by cases hi)
   exact⟨ns0,a1,a2,fun i hi=>(by cases hi),fun j e' cs q1 q2=>(by cases q1)⟩
  | @ptr j e1 cs1 qs1 hj hv=>
   obtain⟨m,a1,a2,a3⟩:=reach_cells (l:=[]) hj hv (fun i hi=>by cases hi)
   refine⟨j::m,a1,a2,fun i hi=>?_,fun j' e' cs q1 q2 i hi=>?_⟩
   ·have hi:i ∈ [j]:=hi
    rw[List.mem_singleton.1 hi];exact List.mem_cons_self
   ·cases q1
    rw[hj]at q2
    cases q2
    exact List.mem_cons_of_mem _ ((a3 i).2 (.inr hi))
 have hfw:=inner_fwd (c:=c) (o:=o) (f:=f) (ks:=ks) (ns:=geN ks.length ns0) (h:=h) (fun F=>by
   have:=hks (fun s=>lnf (ltN h.length s) F)
   simp only[lnf_eq]at this ⊢
   rw[H.idsL,List.append_nil,this,ltN_all hlt]) rfl hrun hback (fun F=>by
   have:=hns (fun s=>lnf (geN ks.length s) F)
   simp only[lnf_eq]at this ⊢
   rw[this])
 have hemb:=outR_emb (h:=h) (h':=pick (inR h ks) h hget ks++ext) (ks:=ks) (ns:=geN ks.length ns0) hkn hlt (by rw[List.length_append,hsl];omega) hback
 have hput:putBack (outR h ks (pick (inR h ks) h hget ks++ext) (geN ks.length ns0)) h h ks ((pick (inR h ks) h hget ks++ext).take ks.length)=h:=by rw[htake];exact putBack_same _ _ _ _ hkf
 have hcov:∀ l:List Nat,(∀ i∈l,i∈ns0)→Cov (outR h ks (pick (inR h ks) h hget ks++ext) (geN ks.length ns0)) (pick (inR h ks) h hget ks++ext) l:=fun l hl=>outR_cov fun i hi=>by
  by_cases q:i<ks.length
  ·exact .inl q
  ·exact .inr (geN_mem.2 ⟨hl i hi,by omega⟩)
 have hend:=he.ren hemb (hcov _ hnm) (fun j e' cs q1 q2=>hcov _ (hp j e' cs q1 q2))
 have hfresh:Fr→∃ v,renEnd (outR h ks (pick (inR h ks) h hget ks++ext) (geN ks.length ns0)) e=.ret v∧∀ i∈idsA v,h.length≤i:=by
  intro hF
  obtain⟨v,q,rfl,hv,hge⟩:=hfr hF
  refine⟨_,rfl,fun i' hi=>?_⟩
  obtain⟨i,hi1,g,g',hr⟩:=hv.ren_from 4 i' hi
  have:=hge i hi1
  rw[hsl]at this
  unfold outR at hr
  cases hb:Nat.beq (obGen (hget (pick (inR h ks) h hget ks++ext) i)) g with
  |false=>rw[hb]at hr;cases hr
  |true=>
   rw[hb]at hr
   simp only[cond]at hr
   rw[nget_eq,List.getElem?_eq_none (by omega)]at hr
   simp only at hr
   split at hr
   ·rw[forceN_eq]at hr
    injection hr with hr
    injection hr with h1 h2
    omega
   ·cases hr
 rw[hput]at hfw hend
 exact⟨_,_,hfw,hend,hfresh⟩
theorem cs_valP{c:Ctx} {o:Orc} {f:FuncId} {ps:List PV} {qe:QE} (hc:Ct c o (.fn f (ps.map .p)) [] fun e h1=>CoE h1 e qe) :
  ∃ e ext,CS c o (.fn f (ps.map .p)) h e (h++ext)∧CoE (h++ext) e qe:=by
 have key:∀ (ps:List PV) (h:List Ob),L2 (Co h) (ps.map .p) (ps.map .pv):=by
  intro ps h
  induction ps with
  |nil=>exact .nil
  |cons a l ih=>exact .cons (.one (.p a)) ih
 have key2:∀ (ps:List PV),(ps.map AV.p).flatMap idsA=[]:=by
  intro ps
  induction ps with
  |nil=>rfl
  |cons a l ih=>rw[List.map_cons,List.flatMap_cons,ih];rfl
 obtain⟨e,ext,h1,h2,_⟩:=cs_valG False (c:=c) (o:=o) (f:=f) (qe:=qe) (key ps h) fun h0 as0 H0 h0e hq=>by
  have e1:=h0e (key2 ps)
  have e2:=hq ps rfl
  subst e1;subst e2
  obtain⟨e,h1,hr,he⟩:=hc
  exact⟨e,h1,hr,⟨h1,by simp⟩,he,fun q=>q.elim⟩
 exact⟨e,ext,h1,h2⟩
theorem cs_ptr{c:Ctx} {o:Orc} {f:FuncId} {i:Nat} {e0:TypeId} {cs as:List AV} {cps ps qps:List CV} {qe:QE} (hi:hget h i=.cells e0 cs) (Hc:L2 (Co1 h) cs cps) (H:L2 (Co h) as ps) (hq:∀ e qs,qe ≠ .ptr e qs)
  (hc : ∀ h0 cs0 as0, hget h0 0 = .cells e0 cs0 → (∀ j, 0 < j → j < h0.length → flat (hget h0 j) = true) → L2 (Co1 h0) cs0 cps → L2 (Co h0) as0 ps →
   Ct c o (.fn f (.ptr 0 0::as0)) h0 fun e h1=>h0.length≤h1.length∧(∀ j,0<j→j<h0.length→flat (hget h1 j)=true)∧(∃ cs1,hget h1 0=.cells e0 cs1∧L2 (Co1 h1) cs1 qps)∧CoE h1 e qe) :
  ∃ e h1,CS c o (.fn f (.ptr i 0::as)) h e h1∧h.length≤h1.length∧(∃ cs1,hget h1 i=.cells e0 cs1∧L2 (Co1 h1) cs1 qps)∧CoE h1 e qe ∧
   (∀ j,j<h.length→j ≠ i→j ∉ cs.flatMap ids1→j ∉ as.flatMap idsA→hget h1 j=hget h j)∧∀ j,j<h.length→j ≠ i→flat (hget h j)=true→flat (hget h1 j)=true:=by
 obtain⟨m,hkn,hks,hkm⟩:=reach_cells (h:=h) (l:=as.flatMap idsA) hi Hc H.flat
 have hmf:∀ j∈m,flat (hget h j)=true:=fun j hj=>by
  rcases(hkm j).1 hj with q|q
  ·exact H.flat _ q
  ·exact Hc.flat1 _ q
 have hil:i<h.length:=by
  rw[hget_eq]at hi
  by_cases q:i<h.length
  ·exact q
  ·rw[List.getElem?_eq_none (by omega)]at hi;cases hi
 have hlt:∀ j∈i::m,j<h.length:=fun j hj=>by
  rcases List.mem_cons.1 hj with q|q
  ·rw[q];exact hil
  ·exact hget_flat_lt (hmf j q)
 generalize hks0:i::m=ks at *
 have hk0:ks[0]?=some i:=by rw[← hks0];rfl
 have him:i∈ks:=by rw[← hks0];exact List.mem_cons_self
 have hmk:∀ j∈m,j∈ks:=fun j hj=>by rw[← hks0];exact List.mem_cons_of_mem _ hj
 have hsl:(pick (inR h ks) h hget ks).length=ks.length:=pick_length _ _ _
 have hp0:inR h ks i 0=some (0,0):=by
  unfold inR
  rw[posOf_of hkn hk0]
  simp only[hi];rfl
 have has:renl (inR h ks) (.ptr i 0::as)=.ptr 0 0::renl (inR h ks) as:=by
  show(ren0 (inR h ks) i (fun j=>AV.ptr j 0) .un)::_=_
  unfold ren0
  rw[hp0];rfl
 have H0:L2 (Co (pick (inR h ks) h hget ks)) (renl (inR h ks) as) ps:=H.ren inR_emb (inR_cov fun j hj=>hmk j ((hkm j).2 (.inl hj))) 4
 have Hc0:L2 (Co1 (pick (inR h ks) h hget ks)) (renl (inR h ks) cs) cps:=Hc.ren1 inR_emb (inR_cov fun j hj=>hmk j ((hkm j).2 (.inr hj))) 5
 have hb0:hget (pick (inR h ks) h hget ks) 0=.cells e0 (renl (inR h ks) cs):=by rw[pick_at hk0,hi];rfl
 have hfl0:∀ j,0<j→j<(pick (inR h ks) h hget ks).length→flat (hget (pick (inR h ks) h hget ks) j)=true:=fun j h1 h2=>by
  rw[hsl]at h2
  rw[pick_get,List.getElem?_eq_getElem h2]
  refine flat_ren (hmf _ ?_) _ _
  have hks1:∀ x∈ks,x=i∨x∈m:=by rw[← hks0];intro x hx;exact List.mem_cons.1 hx
  rcases hks1 _ (List.getElem_mem h2)with q|q
  ·have:=nodup_idx hkn (show ks[j]?=some i by rw[List.getElem?_eq_getElem h2,q]) hk0
   omega
  ·exact q
 obtain⟨e,h1,hrun,hlen,hfl,⟨cs1,hcs1,hL1⟩,he⟩:=hc _ _ _ hb0 hfl0 Hc0 H0
 rw[hsl]at hlen hfl
 have h0l:0<ks.length:=by rw[← hks0];simp
 have hold:∀ j,j<ks.length→(h1.take ks.length)[j]?=some (hget h1 j):=fun j hj=>by
  rw[List.getElem?_take,if_pos hj,hget_eq,List.getElem?_eq_getElem (by omega)];rfl
 have htk:h1.take ks.length=hget h1 0::(h1.take ks.length).tail:=by
  cases hq:h1.take ks.length with
  |nil=>have:=hold 0 h0l;rw[hq]at this;cases this
  |cons a l=>have:=hold 0 h0l;rw[hq]at this;cases this;rfl
 have htail:∀ x∈(h1.take ks.length).tail,flat x=true:=fun x hx=>by
  obtain⟨n,hn⟩:=List.getElem?_of_mem hx
  rw[List.getElem?_tail]at hn
  have hnl:n+1<ks.length:=by
   have:=(List.getElem?_eq_some_iff.1 hn).1
   rw[List.length_take]at this;omega
  rw[hold _ hnl]at hn
  rw[← Option.some.inj hn]
  exact hfl _ (by omega) hnl
 have hflat_ids:∀ (l:List Ob),(∀ x∈l,flat x=true)→flatIds l []=[]:=by
  intro l
  induction l with
  |nil=>intro _;rfl
  |cons a l ih=>
   intro hl
   show obIds a (flatIds l [])=[]
   rw[ih fun x hx=>hl x (List.mem_cons_of_mem _ hx)]
   exact flat_ids (hl a List.mem_cons_self)
 have hback:backOk h ks (h1.take ks.length)=true:=by
  have key:∀ (ks:List Nat) (os:List Ob),(∀ (n k:Nat) (o:Ob),ks[n]?=some k→os[n]?=some o→hasGen o=true∨obGen (hget h k)=0)→backOk h ks os=true:=by
   intro ks
   induction ks with
   |nil=>intro os _;cases os<;>rfl
   |cons k ks ih=>
    intro os ho
    cases os with
    |nil=>rfl
    |cons x os=>
     show cond (hasGen x) (backOk h ks os) (cond (Nat.beq (obGen (hget h k)) 0) (backOk h ks os) false)=true
     have h2:=ih os fun n k' o h1 h2=>ho (n+1) k' o (by simpa using h1) (by simpa using h2)
     rw[h2]
     rcases ho 0 k x rfl rfl with q|q
     ·rw[q];rfl
     ·rw[q];cases hasGen x<;>rfl
  refine key _ _ fun n k o h1 h2=>?_
  have hnl:n<ks.length:=(List.getElem?_eq_some_iff.1 h1).1
  rw[hold n hnl]at h2
  cases h2
  by_cases q:n=0
  ·subst q
   rw[hk0]at h1
   cases h1
   exact .inr (by rw[hi];rfl)
  ·exact .inl (flat_gen (hfl n (by omega) hnl))
 have hids:idsEnd e (flatIds (h1.take ks.length) [])=idsEnd e []++cs1.flatMap ids1:=by
  rw[htk]
  show idsEnd e (obIds (hget h1 0) (flatIds (h1.take ks.length).tail []))=_
  rw[hflat_ids _ htail,hcs1]
  show idsEnd e (idsL cs1 [])=_
  rw[hL1.idsL1,List.append_nil]
  cases he with
  | @val v q hv=>
   show idsN (4+2) v _=idsN (4+2) v []++_
   rw[hv.idsN,hv.idsN,List.append_nil]
  | @vals vs qs hv=>
   show vs.foldr (idsN (3+2)) _=vs.foldr (idsN (3+2)) []++_
   rw[hv.idsF,hv.idsF,List.append_nil]
  |pan q=>rfl
  |ptr=>exact absurd rfl (hq _ _)
 have hflE:∀ j∈idsEnd e []++cs1.flatMap ids1,flat (hget h1 j)=true:=fun j hj=>by
  rcases List.mem_append.1 hj with q|q
  ·cases he with
   | @val v q' hv=>
    have q:j∈idsN (4+2) v []:=q
    rw[hv.idsN,List.append_nil]at q
    exact hv.flat j q
   | @vals vs qs hv=>
    have q:j∈vs.foldr (idsN (3+2)) []:=q
    rw[hv.idsF,List.append_nil]at q
    exact hv.flat j q
   |pan q'=>cases q
   |ptr=>exact absurd rfl (hq _ _)
  ·exact hL1.flat1 _ q
 obtain⟨ns0,hnn,hns,hnm⟩:=reach_vals (h:=h1) hflE
 have hfw:=inner_fwd (c:=c) (o:=o) (f:=f) (ks:=ks) (ns:=geN ks.length ns0) (h:=h) (as:=.ptr i 0::as) (fun F=>by
   have h2:idsL (.ptr i 0::as) []=i::as.flatMap idsA:=by
    show i::idsL as []=_
    rw[H.idsL,List.append_nil]
   rw[h2]
   have:=hks (fun s=>lnf (ltN h.length s) F)
   simp only[lnf_eq]at this ⊢
   rw[this,ltN_all hlt]) has hrun hback (fun F=>by
   rw[hids]
   have:=hns (fun s=>lnf (geN ks.length s) F)
   simp only[lnf_eq]at this ⊢
   rw[this])
 have hemb:=outR_emb (h:=h) (h':=h1) (ks:=ks) (ns:=geN ks.length ns0) hkn hlt hlen hback
 have hcov:∀ l:List Nat,(∀ i∈l,i∈ns0)→Cov (outR h ks h1 (geN ks.length ns0)) h1 l:=fun l hl=>outR_cov fun j hj=>by
  by_cases q:j<ks.length
  ·exact .inl q
  ·exact .inr (geN_mem.2 ⟨hl j hj,by omega⟩)
 have hend:=he.ren hemb (hcov _ fun j hj=>(hnm j).2 (List.mem_append_left _ hj)) (fun j e' cs' q1 q2=>by subst q1;cases he with
  |val hv=>cases hv with|one h1=>cases h1
  |ptr=>exact absurd rfl (hq _ _))
 refine⟨_,_,hfw,?_,⟨renl (outR h ks h1 (geN ks.length ns0)) cs1,?_,?_⟩,hend,?_,?_⟩
 ·rw[List.length_append,putBack_length];omega
 ·rw[hget_appL _ _ (by rw[putBack_length];exact hil),putBack_at _ _ _ _ _ 0 hkn hk0 (hold 0 h0l) hil,hcs1];rfl
 ·exact hL1.ren1 hemb (hcov _ fun j hj=>(hnm j).2 (List.mem_append_right _ hj)) 5
 ·intro j hj hji h2 h3
  rw[hget_appL _ _ (by rw[putBack_length];exact hj),putBack_other]
  intro q
  rw[← hks0]at q
  rcases List.mem_cons.1 q with q|q
  ·exact hji q
  ·rcases(hkm j).1 q with q|q
   ·exact h3 q
   ·exact h2 q
 ·intro j hj hji hf
  rw[hget_appL _ _ (by rw[putBack_length];exact hj)]
  by_cases q:j∈ks
  ·obtain⟨n,hn⟩:=List.getElem?_of_mem q
   have hnl:n<ks.length:=(List.getElem?_eq_some_iff.1 hn).1
   rw[putBack_at _ _ _ _ _ n hkn hn (hold n hnl) hj]
   have hn0:0<n:=by
    rcases Nat.eq_zero_or_pos n with q0|q0
    ·subst q0;rw[hk0]at hn;exact absurd (Option.some.inj hn).symm hji
    ·exact q0
   exact flat_ren (hfl _ hn0 hnl) _ _
  ·rw[putBack_other _ _ _ _ _ q];exact hf
end
inductive Sl (h:List Ob) (sz:Nat):AV→List PV→Prop
 |nil:Sl h sz (.p .nils) []
 |vec (xs):Sl h sz (.p (.vec sz xs)) xs
 |full (xs):Sl h sz (.full sz xs) xs
 |sl {i g off len xs ys} (hr:rowAt h i g sz=some xs) (hs:sub? xs off len=some ys):Sl h sz (.sl i g sz off len) ys
inductive IsS (sz:Nat):CV→List PV→Prop
 |nil:IsS sz (.pv .nils) []
 |vec (xs):IsS sz (.pv (.vec sz xs)) xs
 |own (e xs):IsS sz (.own e sz xs) xs
theorem sub_all{α:Type} (l:List α):sub? l 0 l.length=some l:=by
 unfold sub?
 rw[Nat.ble_eq_true_of_le (by omega)]
 simp
theorem Co1.sl'{h v c sz xs} (H:Co1 h v c) (hs:IsS sz c xs):Sl h sz v xs:=by
 cases hs with
 |nil=>cases H with|p=>exact .nil
 |vec=>cases H with
  |p=>exact .vec _
  |full=>exact .full _
  |sl hr hs=>exact .sl hr hs
 |own=>cases H with
  | @own i g e sz xs ex hr=>
   refine .sl (xs:=xs) ?_ (sub_all xs)
   unfold rowAt
   rw[hr]
   show cond (Nat.beq g g&&Nat.beq sz sz) (some xs) none=_
   rw[Nat.beq_refl,Nat.beq_refl];rfl
theorem Co.sl'{h v c sz xs} (H:Co h v c) (hs:IsS sz c xs):Sl h sz v xs:=by
 cases hs with
 |nil=>cases H with|one h1=>exact h1.sl' .nil
 |vec=>cases H with|one h1=>exact h1.sl' (.vec _)
 |own=>cases H with|one h1=>exact h1.sl' (.own _ _)
theorem Sl.co{h v sz xs} (H:Sl h sz v xs):∃ c,Co1 h v c∧IsS sz c xs:=by
 cases H with
 |nil=>exact⟨_,.p _,.nil⟩
 |vec xs=>exact⟨_,.p _,.vec _⟩
 |full xs=>exact⟨_,.full _ _,.vec _⟩
 |sl hr hs=>exact⟨_,.sl hr hs,.vec _⟩
theorem sub_len{α:Type} {l m:List α} {o n:Nat} (h:sub? l o n=some m):m.length=n∧o+n≤l.length∧m=(l.drop o).take n:=by
 unfold sub? at h
 cases hb:Nat.ble (o+n) l.length with
 |false=>rw[hb]at h;cases h
 |true=>
  rw[hb]at h
  have hb:=Nat.le_of_ble_eq_true hb
  cases h
  exact⟨by simp;omega,hb,rfl⟩
def EOk(c:Ctx) (e:TypeId) (x:PV):Prop:=loadC c e x=some (.p x)∧part? c e x.cells 0=some x
theorem eok_int{c:Ctx} {e:TypeId} {k n} (ha:aggT? c e=some false):EOk c e (.int k n):=by
 refine⟨?_,?_⟩
 ·unfold loadC;rw[ha]
 ·unfold part?;rw[ha];rfl
theorem eok_bool{c:Ctx} {e:TypeId} {s} (ha:aggT? c e=some false):EOk c e (.bool s):=by
 refine⟨?_,?_⟩
 ·unfold loadC;rw[ha]
 ·unfold part?;rw[ha];rfl
theorem eok_agg{c:Ctx} {e:TypeId} {n:Nat} {cs:List PV} (ha:aggT? c e=some true) (hs:sizeOf? c e=some n) (hn:cs.length=n):EOk c e (.agg cs):=by
 refine⟨?_,?_⟩
 ·unfold loadC;rw[ha,hs];subst hn
  show cond (Nat.beq cs.length cs.length) _ none=_
  rw[Nat.beq_refl];rfl
 ·unfold part?;rw[ha,hs]
  show subK cs 0 n _ none=_
  unfold subK
  rw[Nat.ble_eq_true_of_le (by omega)]
  simp only[cond,lnf_eq,List.drop_zero]
  rw[List.take_of_length_le (by omega)]
section
variable {c:Ctx} {o:Orc} {rd:Option Nat} {Q:Post} {t:Tm} {h h':List Ob} {d:List AD} {r:Option RM} {k:KP}
variable {ty e:TypeId} {v x:AV} {n sz:Nat} {xs:List PV}
theorem Sl.len(H:Sl h sz v xs) (hu:c.under ty=some (.slice e)):lenW c h ty v=.w (.p (.int .i64 xs.length)):=by
 cases H with
 |nil=>exact len_nils hu
 |vec=>exact len_vec hu
 |full=>exact len_slice hu rfl (by intro s hs;cases hs)
 |sl hr hs=>rw[len_sl hu,(sub_len hs).1]
noncomputable def rdS(v:AV) (k:Nat):AV:=match v with
 |.p (.vec _ xs)=>.cptr (xs.getD k .nilp)
 |.full _ xs=>.cptr (xs.getD k .nilp)
 |.sl i g s off _=>.el i g s (off+k) 0
 |_=>.un
theorem idxVec_at{i:Int} {j:IntKind} (h0:0≤i) (hn:i<xs.length):idxVec (.p (.int j i)) sz sz xs=some (.cptr (xs.getD i.toNat .nilp)):=by
 unfold idxVec
 rw[Nat.beq_refl]
 simp only[cond,inB_i h0 hn,pget_eq]
 have hi:i.toNat<xs.length:=by omega
 rw[List.getElem?_eq_getElem hi]
 simp [List.getD,hi]
theorem Sl.at{i:Int} {j:IntKind} (H:Sl h (sz+1) v xs) (hu:c.under ty=some (.slice e)) (hs:sizeOf? c e=some (sz+1)) (h0:0≤i) (hn:i<xs.length) :
  indexAddr? c ty v (.p (.int j i))=some (rdS v i.toNat):=by
 unfold indexAddr?
 simp only[hu,hs]
 cases H with
 |nil=>simp at hn;omega
 |vec=>exact idxVec_at h0 hn
 |full=>exact idxVec_at h0 hn
 | @sl a g off len ys _ hr hs=>
  show cond (Nat.beq (sz+1) (sz+1)) (match inB (.p (.int j i)) len with|some k=>forceN (off+k) fun k=>some (AV.el a g (sz+1) k 0)|none=>none) none=_
  rw[Nat.beq_refl]
  simp only[cond]
  rw[inB_i h0 (by rw[← (sub_len hs).1];exact hn)]
  simp only[forceN_eq];rfl
theorem Sl.load{k:Nat} (H:Sl h sz v xs) (hk:k<xs.length) (he:EOk c e (xs.getD k .nilp)):load? c h e (rdS v k)=some (.p (xs.getD k .nilp)):=by
 cases H with
 |nil=>simp at hk
 |vec=>exact he.1
 |full=>exact he.1
 | @sl a g off len ys _ hr hs=>
  show loadEl c h e a g sz (off+k) 0=_
  unfold loadEl
  rw[hr]
  obtain⟨h1,h2,h3⟩:=sub_len hs
  have hg:ys[off+k]?=some (xs.getD k .nilp):=by
   subst h3
   have:k<len:=by omega
   rw[List.getElem?_eq_getElem (by omega)]
   simp [List.getD,this,show off+k<ys.length by omega]
  simp only[pget_eq,hg,he.2]
theorem Sl.elems(H:Sl h sz v xs):elems? h v=some xs:=by
 cases H with
 |nil=>rfl
 |vec=>rfl
 |full=>rfl
 | @sl i g off len ys _ hr hs=>
  show elemsSl h i g sz off len=_
  unfold elemsSl
  rw[hr];exact hs
theorem Sl.szIs(H:Sl h sz v xs):szIs sz v=true:=by
 cases H with
 |nil=>rfl
 |vec=>exact Nat.beq_refl _
 |full=>exact Nat.beq_refl _
 |sl=>exact Nat.beq_refl _
theorem Sl.szIsB(H:Sl h sz v xs):szIsB sz v=true:=by
 cases H with
 |nil=>rfl
 |vec=>exact Nat.beq_refl _
 |full=>exact Nat.beq_refl _
 |sl=>exact Nat.beq_refl _
theorem Sl.ext(H:Sl h sz v xs) (e:List Ob):Sl (h++e) sz v xs:=by
 obtain⟨c,h1,h2⟩:=H.co
 exact(h1.ext e).sl' h2
theorem Sl.keep(H:Sl h sz v xs) (hk:∀ i∈ids1 v,hget h' i=hget h i):Sl h' sz v xs:=by
 obtain⟨c,h1,h2⟩:=H.co
 exact(h1.keep hk).sl' h2
inductive Own (h:List Ob) (e:TypeId) (sz:Nat):AV→List PV→Prop
 |nil:Own h e sz (.p .nils) []
 |row {i g xs ex}:hget h i=.row e sz xs ex g→Own h e sz (.sl i g sz 0 xs.length) xs
theorem Own.sl'(H:Own h e sz v xs):Sl h sz v xs:=by
 cases H with
 |nil=>exact .nil
 |row hr=>exact(Co1.own hr).sl' (.own _ _)
theorem Own.ext(H:Own h e sz v xs) (es:List Ob):Own (h++es) e sz v xs:=by
 cases H with
 |nil=>exact .nil
 |row hr=>exact .row (by rw[hget_appL _ _ (hget_flat_lt (by rw[hr];rfl)),hr])
theorem app_own{new:List PV} (H:Own h e sz v xs) (hsz:sizeOf? c e=some sz) (h1:1≤sz) (hx:elems? h x=some new) (hsx:szIsB sz x=true) (hn:new ≠ []) (hr:room c e (xs.length+new.length)=true) :
  ∃ v' h',Own h' e sz v' (xs++new)∧h.length≤h'.length∧(∀ i,i<h.length→i ∉ ids1 v→hget h' i=hget h i)∧(∀ i,i<h.length→flat (hget h i)=true→flat (hget h' i)=true)∧(∀ j∈ids1 v',j∈ids1 v∨h.length≤j) ∧
   ∀ (op:Op) (dst:Option Tmp) (t:Tm) (d:List AD) (r:Option RM) (k:KP) (Q:Post),opW c o rd op dst t h d r (append? c h e v x) k Q=k (put dst v' t) h' d r:=by
 have hcond:(Nat.ble 1 sz&&Ai.szIsB sz x)=true:=by rw[Nat.ble_eq_true_of_le h1,hsx];rfl
 cases H with
 |nil=>
  refine⟨.sl h.length 0 sz 0 new.length,h++[.row e sz new false 0],.row (hget_new h _),by simp,fun i hi _=>hget_app h _ i hi,fun i hi hf=>by rw[hget_app h _ i hi];exact hf,fun j hj=>.inr (by rw[List.mem_singleton.1 hj];exact Nat.le_refl _),?_⟩
  intro op dst t d r k Q
  rw[append_nil0 hsz (Nat.ble_eq_true_of_le h1) hx hsx hn (by simpa using hr)];rfl
 | @row i g xs ex hrow=>
  have hi:=hget_flat_lt (h:=h) (i:=i) (by rw[hrow];rfl)
  have hne:new.length ≠ 0:=by simpa using hn
  have hl:Nat.ble (0+xs.length+new.length) xs.length=false:=by
   rw[Bool.eq_false_iff];intro q
   have:=Nat.le_of_ble_eq_true q
   omega
  cases ex with
  |false=>
   refine⟨.sl i (g+1) sz 0 (xs++new).length,hset h i (.row e sz (xs++new) false (g+1)),.row (by rw[hget_hset _ _ _ _ hi,if_pos rfl]),by rw[hset_length];exact Nat.le_refl _,fun j hj hne=>?_,fun j hj hf=>?_,fun j hj=>.inl hj,?_⟩
   ·rw[hget_hset _ _ _ _ hi,if_neg]
    intro q;exact hne (by rw[q];exact List.mem_singleton.2 rfl)
   ·rw[hget_hset _ _ _ _ hi]
    split
    ·rfl
    ·exact hf
   ·intro op dst t d r k Q
    have:append? c h e (.sl i g sz 0 xs.length) x=.ws (.sl i (g+1) sz 0 (xs++new).length) i (.row e sz (xs++new) false (g+1)):=by
     unfold append?
     simp only[hsz,hx,hcond,cond,Nat.beq_refl,hr,Bool.true_and]
     unfold appSl
     simp only[hrow,Nat.beq_refl,Bool.true_and,cond]
     rw[hl]
     simp only[lnf_eq,forceN_eq,List.length_append]
    rw[this];rfl
  |true=>
   refine⟨.sl h.length 0 sz 0 (xs++new).length,h++[.row e sz (xs++new) false 0],.row (hget_new h _),by simp,fun i hi _=>hget_app h _ i hi,fun i hi hf=>by rw[hget_app h _ i hi];exact hf,fun j hj=>.inr (by rw[List.mem_singleton.1 hj];exact Nat.le_refl _),?_⟩
   intro op dst t d r k Q
   have:append? c h e (.sl i g sz 0 xs.length) x=.wn (.sl h.length 0 sz 0 (xs++new).length) (.row e sz (xs++new) false 0):=by
    unfold append?
    simp only[hsz,hx,hcond,cond,Nat.beq_refl,hr,Bool.true_and]
    unfold appSl
    simp only[hrow,Nat.beq_refl,Bool.true_and,cond]
    rw[hl]
    simp only[sub_all]
    unfold newRow
    simp only[forceN_eq,lnf_eq,List.length_append]
   rw[this];rfl
end
section
variable {c:Ctx} {o:Orc} {rd:Option Nat} {Q:Post} {t:Tm} {h:List Ob} {d:List AD} {r:Option RM} {k:KP}
theorem callW_pan{g as dst v h'} (hx:c.ext g=none) (H:CS c o (.fn g as) h (.pan v) h'):callW c o dst t h d r (some (.fn g as)) k Q=Q (.pan v) t h' d r:=by
 unfold callW
 have:extOf c h (.fn g as)=none:=by simp only[extOf,hx]
 simp only[this]
 apply propext
 constructor
 ·intro⟨e,h2,hc,hk⟩
  obtain⟨rfl,rfl⟩:=H.uniq hc
  exact hk
 ·intro hk;exact⟨_,_,H,hk⟩
def recW(dst:Option Tmp) (t:Tm) (h:List Ob) (d:List AD) (r:Option RM) (k:KP):Prop:=match r with
 |some (.pan v false)=>k (put dst v t) h d (some (.pan v true))
 |_=>k (put dst (.p .nili) t) h d r
theorem opW_recover{dst}:opW c o none (.call {callee:=.builtin .recover,args:=#[],argTypes:=#[]}) dst t h d r (opD (.call {callee:=.builtin .recover,args:=#[],argTypes:=#[]}) c t h) k Q=recW dst t h d r k:=(rfl)
theorem recW_pan{dst v}:recW dst t h d (some (.pan v false)) k=k (put dst v t) h d (some (.pan v true)):=(rfl)
theorem recW_ret{dst}:recW dst t h d (some .ret) k=k (put dst (.p .nili) t) h d (some .ret):=(rfl)
def deferW(cl:Option Callee') (dst:Option Tmp) (t:Tm) (h:List Ob) (d:List AD) (r:Option RM) (k:KP):Prop:=match cl with
 |some (.fn g as)=>k (put dst undefA t) h (.fn g as::d) r
 |_=>False
theorem opW_defer{f as tys dst}:opW c o none (.defer {callee:=.value f,args:=as,argTypes:=tys}) dst t h d r (opD (.defer {callee:=.value f,args:=as,argTypes:=tys}) c t h) k Q=deferW (target? (ev c t f) (evs c t as.toList)) dst t h d r k:=(rfl)
theorem deferW_fn{g as dst}:deferW (some (.fn g as)) dst t h d r k=k (put dst undefA t) h (.fn g as::d) r:=(rfl)
@[congr] theorem deferW_congr{cl cl':Option Callee'} {dst} (hc:cl=cl'):deferW cl dst t h d r k=deferW cl' dst t h d r k:=by rw[hc]
theorem opD_assert{x a ty ok}:opD (.typeAssert x a ty ok) c t h=.ofO (typeAssert? c ty ok (ev c t x)):=(rfl)
theorem opD_face{ty x}:opD (.makeInterface ty x) c t h=.ofO (mkFace c ty (ev c t x)):=(rfl)
noncomputable def boxW(h:List Ob) (el:TypeId) (v:AV):VH:=match v.cells? with|some cs=>.wn (.ptr h.length 0) (.cells el cs)|none=>.no
theorem opD_box{el x}:opD (.box el x) c t h=boxW h el (ev c t x):=by
 show(match(ev c t x).cells? with|some cs=>forceN h.length fun n=>lnf cs fun cs=>VH.wn (.ptr n 0) (.cells el cs)|none=>.no)=_
 simp only[forceN_eq,lnf_eq];rfl
theorem boxW_agg{el:TypeId} {cs:List AV}:boxW h el (.agg cs)=.wn (.ptr h.length 0) (.cells el cs):=(rfl)
theorem boxW_pagg{el:TypeId} {cs:List PV}:boxW h el (.p (.agg cs))=.wn (.ptr h.length 0) (.cells el (cs.map .p)):=(rfl)
theorem opD_makeSlice{ty l m}:opD (.makeSlice ty l m) c t h=makeSlice? c h ty (ev c t l) (ev c t m):=(rfl)
def CtR(c:Ctx) (o:Orc) (cl:Callee') (h:List Ob) (m:RM) (P:AEnd→List Ob→Option RM→Prop):Prop:=
 ∃ e h' r',(∃ k0,∀ k,k0≤k→callN c o k cl h (some m)=some (.mk e h' r'))∧P e h' r'
noncomputable def endPR(c:Ctx) (rs:List ResultVar) (P:AEnd→List Ob→Option RM→Prop):Post:=fun e t h d r=>
 d=[]∧(match e with
 |.pan v=>P (.pan v) h r
 |.exit _=>False
 |_=>(match results? c h t rs with
  |some vs=>P (.ret (vals vs)) h r
  |none=>False))
theorem endPR_ret{rs P}:endPR c rs P .ret t h [] r=(match results? c h t rs with|some vs=>P (.ret (vals vs)) h r|none=>False):=by
 simp only[endPR,true_and]
 try rfl
theorem endPR_n{rs P}:endPR c rs P .n t h [] r=(match results? c h t rs with|some vs=>P (.ret (vals vs)) h r|none=>False):=by
 simp only[endPR,true_and]
 try rfl
theorem leave_nilR{call rs t h vs r} (hr:results? c h t rs=some vs):leave c call rs t r [] .ret h=some (.mk (.ret (vals vs)) h r):=by
 unfold leave
 simp only[hr]
 cases vs with
 |nil=>rfl
 |cons v l=>cases l<;>rfl
theorem ct_scR{f:FuncId} {fn:Func} {sc:SC} {n:Nat} {rs:List ResultVar} {args h P m} (hf:c.fn f=some fn) (hb:fn.body.map tr=some sc) (hn:fn.ntmps=n) (hr:fn.results.toList=rs)
  (ha:Nat.ble args.length n=true) (hok:okS n sc=true)
  (hw:xC c o none sc (endPR c rs P) (argT args 0 .lf) h [] (some m)):CtR c o (.fn f args) h m P:=by
 subst hn;subst hr
 cases hb':fn.body with
 |none=>rw[hb']at hb;cases hb
 |some b=>
  rw[hb']at hb
  have:tr b=sc:=Option.some.inj hb
  subst this
  obtain⟨out,⟨k0,h0⟩,hq⟩:=xC_ok (fn:=f) b _ hok _ _ _ _ hw
  have st:∀ k,callN c o (k+1) (.fn f args) h (some m)=callEnd c (callN c o k) fn (exec ⟨c,callN c o k,f,fn.ntmps,none⟩ k b (argT args 0 .lf) h [] (some m)):=by
   intro k
   show callFn c o k (callN c o k) f args h (some m)=_
   unfold callFn
   simp only[hf]
   unfold callBody
   simp only[hb',ha,cond,argTm_eq]
  obtain⟨e,t',h',d',r'⟩:=out
  obtain⟨hd,hq⟩:=hq
  subst hd
  cases e with
  |exit i=>exact hq.elim
  |pan v=>
   refine⟨.pan v,h',r',⟨k0+1,fun k hk=>?_⟩,hq⟩
   obtain⟨k,rfl⟩:∃ i,k=i+1:=⟨k-1,by omega⟩
   rw[st,h0 k (by omega) k (by omega)];rfl
  |n=>
   simp only at hq
   split at hq
   ·rename_i vs hvs
    refine⟨.ret (vals vs),h',r',⟨k0+1,fun k hk=>?_⟩,hq⟩
    obtain⟨k,rfl⟩:∃ i,k=i+1:=⟨k-1,by omega⟩
    rw[st,h0 k (by omega) k (by omega)]
    exact leave_nilR (call:=callN c o k) hvs
   ·exact hq.elim
  |ret=>
   simp only at hq
   split at hq
   ·rename_i vs hvs
    refine⟨.ret (vals vs),h',r',⟨k0+1,fun k hk=>?_⟩,hq⟩
    obtain⟨k,rfl⟩:∃ i,k=i+1:=⟨k-1,by omega⟩
    rw[st,h0 k (by omega) k (by omega)]
    exact leave_nilR (call:=callN c o k) hvs
   ·exact hq.elim
def pureM:RM→Bool
 |.ret=>true
 |.pan (.p _) _=>true
 |_=>false
theorem idsL_pures:∀ (ps:List PV),idsL (ps.map .p) []=[]:=by
 intro ps
 induction ps with
 |nil=>rfl
 |cons a l ih=>show idsN 6 (.p a) (idsL (l.map .p) [])=[];rw[ih];rfl
theorem renl_pures(r:RenF):∀ (ps:List PV),renl r (ps.map .p)=ps.map .p:=by
 intro ps
 induction ps with
 |nil=>rfl
 |cons a l ih=>show ren r (.p a)::renl r (l.map .p)=_;rw[ih];rfl
theorem pureM_ids{m:RM} (h:pureM m=true):idsRM (some m) []=[]:=by
 cases m with
 |ret=>rfl
 |pan v b=>cases v<;>first|rfl|cases h
theorem pureM_ren{m:RM} (h:pureM m=true) (r:RenF):renRM r (some m)=some m:=by
 cases m with
 |ret=>rfl
 |pan v b=>cases v<;>first|rfl|cases h
end
theorem allP_ids:∀ (l:List AV) (ps:List PV),allP l=some ps→∀ k,l.foldr (idsN (k+1)) []=[]:=by
 intro l
 induction l with
 |nil=>intro _ _ _;rfl
 |cons a l ih=>
  intro ps hl k
  cases a with
  |p x=>
   simp only[allP]at hl
   split at hl
   ·rename_i m hm
    show idsN (k+1) (.p x) (l.foldr (idsN (k+1)) [])=[]
    rw[ih m hm];rfl
   ·cases hl
  |_=>cases hl
theorem allP_ren:∀ (l:List AV) (ps:List PV),allP l=some ps→∀ (r:RenF) (k:Nat),l.map (renN r (k+1))=l:=by
 intro l
 induction l with
 |nil=>intro _ _ _ _;rfl
 |cons a l ih=>
  intro ps hl r k
  cases a with
  |p x=>
   simp only[allP]at hl
   split at hl
   ·rename_i m hm
    show renN r (k+1) (.p x)::l.map (renN r (k+1))=_
    rw[ih m hm];rfl
   ·cases hl
  |_=>cases hl
theorem pureT_ids{v:AV} (hp:pureT v=true):idsEnd (.ret v) []=[]:=by
 show idsN 6 v []=[]
 unfold pureT at hp
 split at hp
 ·rfl
 ·rename_i l
  split at hp
  ·rename_i ps hl;exact allP_ids l ps hl 4
  ·cases hp
 ·cases hp
theorem pureT_ren{v:AV} (hp:pureT v=true) (r:RenF):renEnd r (.ret v)=.ret v:=by
 show AEnd.ret (ren r v)=.ret v
 congr 1
 unfold pureT at hp
 split at hp
 ·rfl
 ·rename_i l
  split at hp
  ·rename_i ps hl
   show AV.tup (l.map (renN r 5))=.tup l
   rw[allP_ren l ps hl]
  ·cases hp
 ·cases hp
theorem cs_pure{c:Ctx} {o:Orc} {f:FuncId} {as:List AV} {ps:List CV} {h:List Ob} {v:AV} (H:L2 (Co h) as ps) (hp:pureT v=true)
  (hc:∀ h0 as0,L2 (Co h0) as0 ps→Ct c o (.fn f as0) h0 fun e h1=>e=.ret v∧∃ ext,h1=h0++ext):CS c o (.fn f as) h (.ret v) h:=by
 obtain⟨ks,hkn,hks,hkm⟩:=reach_vals (h:=h) (l:=as.flatMap idsA) H.flat
 have hkf:∀ i∈ks,flat (hget h i)=true:=fun i hi=>H.flat i ((hkm i).1 hi)
 have hlt:∀ i∈ks,i<h.length:=fun i hi=>hget_flat_lt (hkf i hi)
 have H0:L2 (Co (pick (inR h ks) h hget ks)) (renl (inR h ks) as) ps:=H.ren inR_emb (inR_cov fun i hi=>(hkm i).2 hi) 4
 have hsl:(pick (inR h ks) h hget ks).length=ks.length:=pick_length _ _ _
 obtain⟨e,h1,hrun,rfl,ext,rfl⟩:=hc _ _ H0
 have htake:(pick (inR h ks) h hget ks++ext).take ks.length=pick (inR h ks) h hget ks:=by rw[← hsl,List.take_left]
 have hback:backOk h ks ((pick (inR h ks) h hget ks++ext).take ks.length)=true:=by rw[htake];exact backOk_flat _ _ _ hkf
 have hfl:flatIds ((pick (inR h ks) h hget ks++ext).take ks.length) []=[]:=by rw[htake];exact flatIds_flat _ _ _ hkf
 have hfw:=inner_fwd (c:=c) (o:=o) (f:=f) (ks:=ks) (ns:=[]) (h:=h) (fun F=>by
   have:=hks (fun s=>lnf (ltN h.length s) F)
   simp only[lnf_eq]at this ⊢
   rw[H.idsL,List.append_nil,this,ltN_all hlt]) rfl hrun hback (fun F=>by
   rw[hfl,pureT_ids hp,addNew_nil,reach_flat' _ _ _ _ _ (by intro j hj;cases hj),lnf_eq];rfl)
 rw[htake,putBack_same _ _ _ _ hkf,pureT_ren hp]at hfw
 have:pick (outR h ks (pick (inR h ks) h hget ks++ext) []) (pick (inR h ks) h hget ks++ext) hget []=[]:=rfl
 rw[this,List.append_nil]at hfw
 exact hfw
theorem cs_panP{c:Ctx} {o:Orc} {f:FuncId} {ps:List PV} {h:List Ob} {v:PV} (H:Ct c o (.fn f (ps.map .p)) [] fun e h1=>e=.pan (.p v)):CS c o (.fn f (ps.map .p)) h (.pan (.p v)) h:=by
 have hids:idsL (ps.map .p) []=[]:=idsL_pures ps
 obtain⟨e,h1,hrun,rfl⟩:=H
 have hfw:=inner_fwd (c:=c) (o:=o) (f:=f) (as:=ps.map .p) (as0:=ps.map .p) (ks:=[]) (ns:=[]) (h:=h) (e:=.pan (.p v)) (h':=h1) (fun F=>by
   rw[hids,addNew_nil,reach_flat' _ _ _ _ _ (by intro j hj;cases hj),lnf_eq];rfl) (renl_pures _ _) hrun rfl (fun F=>by
   rw[show flatIds (h1.take ([]:List Nat).length) []=[]from by rw[List.length_nil,List.take_zero];rfl]
   show(addNew [] [] _)=_
   rw[addNew_nil,reach_flat' _ _ _ _ _ (by intro j hj;cases hj),lnf_eq];rfl)
 have e1:pick (outR h [] h1 []) h1 hget []=[]:=rfl
 have e2:putBack (outR h [] h1 []) h h [] (h1.take ([]:List Nat).length)=h:=by simp [putBack]
 rw[e1,e2,List.append_nil]at hfw
 exact hfw
section
variable {c:Ctx} {o:Orc} {rd:Option Nat} {Q:Post} {t:Tm} {h h':List Ob} {d:List AD} {r:Option RM} {k:KP}
variable {ty e:TypeId} {v x:AV} {n sz:Nat} {xs:List PV}
theorem Own.co1(H:Own h e sz v xs) (hv:v ≠ .p .nils):Co1 h v (.own e sz xs):=by
 cases H with
 |nil=>exact absurd rfl hv
 |row hr=>exact .own hr
theorem app_none{i g:Nat} {ex:Bool} (hrow:hget h i=.row e sz xs ex g) (hsz:sizeOf? c e=some sz) (h1:1≤sz) (hx:elems? h x=some []) (hsx:szIsB sz x=true) (hr:room c e xs.length=true) :
  append? c h e (.sl i g sz 0 xs.length) x=.ws (.sl i g sz 0 xs.length) i (.row e sz xs ex g):=by
 have hcond:(Nat.ble 1 sz&&Ai.szIsB sz x)=true:=by rw[Nat.ble_eq_true_of_le h1,hsx];rfl
 unfold append?
 simp only[hsz,hx,hcond,cond,Nat.beq_refl,List.length_nil,Nat.add_zero,hr,Bool.true_and]
 unfold appSl
 simp only[hrow,Nat.beq_refl,Bool.true_and,cond,List.length_nil,Nat.add_zero,Nat.zero_add]
 rw[Nat.ble_eq_true_of_le (Nat.le_refl _)]
 simp only
 unfold overK
 simp only[List.length_nil,Nat.add_zero]
 rw[Nat.ble_eq_true_of_le (Nat.le_refl _)]
 simp only[cond,lnf_eq,forceN_eq]
 rw[List.take_of_length_le (Nat.le_refl _),List.drop_of_length_le (Nat.le_refl _)]
 simp
theorem app_any{new:List PV} {i g:Nat} {ex:Bool} (hrow:hget h i=.row e sz xs ex g) (hsz:sizeOf? c e=some sz) (h1:1≤sz) (hx:elems? h x=some new) (hsx:szIsB sz x=true) (hr:room c e (xs.length+new.length)=true) :
  ∃ v' h',Own h' e sz v' (xs++new)∧(∃ j g',v'=.sl j g' sz 0 (xs++new).length∧(j=i∨h.length≤j))∧h.length≤h'.length∧(∀ j,j<h.length→j ≠ i→hget h' j=hget h j)∧(∀ j,j<h.length→flat (hget h j)=true→flat (hget h' j)=true) ∧
   ∀ (op:Op) (dst:Option Tmp) (t:Tm) (d:List AD) (r:Option RM) (k:KP) (Q:Post),opW c o rd op dst t h d r (append? c h e (.sl i g sz 0 xs.length) x) k Q=k (put dst v' t) h' d r:=by
 have hi:=hget_flat_lt (h:=h) (i:=i) (by rw[hrow];rfl)
 by_cases hn:new=[]
 ·subst hn
  refine⟨.sl i g sz 0 xs.length,hset h i (.row e sz xs ex g),?_,⟨i,g,by simp,.inl rfl⟩,by rw[hset_length];exact Nat.le_refl _,fun j hj hne=>by rw[hget_hset _ _ _ _ hi,if_neg hne],fun j hj hf=>?_,?_⟩
  ·rw[List.append_nil];exact .row (by rw[hget_hset _ _ _ _ hi,if_pos rfl])
  ·rw[hget_hset _ _ _ _ hi]
   split
   ·rfl
   ·exact hf
  ·intro op dst t d r k Q
   rw[app_none hrow hsz h1 hx hsx (by simpa using hr)];rfl
 ·obtain⟨v',h2,a1,a2,a3,a4,a6,a5⟩:=app_own (c:=c) (o:=o) (rd:=rd) (Own.row hrow) hsz h1 hx hsx hn hr
  refine⟨v',h2,a1,?_,a2,fun j hj hne=>a3 j hj (by intro q;exact hne (List.mem_singleton.1 q)),a4,a5⟩
  cases ha:xs++new with
  |nil=>simp at ha;exact absurd ha.2 hn
  |cons a l=>
   rw[ha]at a1
   generalize hzs:a::l=zs at a1
   cases a1 with
   |nil=>cases hzs
   | @row i' g' xs' ex' hr=>exact⟨_,_,rfl,(a6 i' (List.mem_singleton.2 rfl)).imp_left List.mem_singleton.1⟩
def CV.isNil:CV→Bool
 |.pv .nils=>true
 |_=>false
def clV(e:TypeId) (sz:Nat) (c:CV) (xs:List PV):CV:=cond c.isNil (.pv .nils) (.own e sz xs)
end
section
variable {h h':List Ob}
noncomputable def posD(ks:List Nat) (i:Nat):Nat:=(posOf i ks 0).getD 0
theorem posD_inj{ks:List Nat} {i j:Nat} (hi:i∈ks) (hj:j∈ks) (e:posD ks i=posD ks j):i=j:=by
 unfold posD at e
 cases h1:posOf i ks 0 with
 |none=>exact absurd hi (posOf_none h1)
 |some a=>
  cases h2:posOf j ks 0 with
  |none=>exact absurd hj (posOf_none h2)
  |some b=>
   rw[h1,h2]at e
   have e:a=b:=e
   subst e
   have:=posOf_at h1
   rw[posOf_at h2]at this
   exact(Option.some.inj this).symm
theorem nodup_map{ks l:List Nat} (hn:l.Nodup) (hk:∀ i∈l,i∈ks):(l.map (posD ks)).Nodup:=by
 induction l with
 |nil=>exact List.nodup_nil
 |cons a l ih=>
  rw[List.map_cons,List.nodup_cons]
  rw[List.nodup_cons]at hn
  refine⟨fun q=>?_,ih hn.2 fun i hi=>hk i (List.mem_cons_of_mem _ hi)⟩
  obtain⟨b,hb,e⟩:=List.mem_map.1 q
  have:=posD_inj (hk b (List.mem_cons_of_mem _ hb)) (hk a List.mem_cons_self) e
  subst this
  exact hn.1 hb
end
theorem l2_1{α β:Type} {R:α→β→Prop} {m:List α} {a:β} (H:L2 R m [a]):∃ x,m=[x]∧R x a:=by
 cases H with
 |cons h1 H=>cases H with|nil=>exact⟨_,rfl,h1⟩
theorem l2_2{α β:Type} {R:α→β→Prop} {m:List α} {a b:β} (H:L2 R m [a,b]):∃ x y,m=[x,y]∧R x a∧R y b:=by
 cases H with
 |cons h1 H=>obtain⟨y,rfl,h2⟩:=l2_1 H;exact⟨_,_,rfl,h1,h2⟩
theorem l2_3{α β:Type} {R:α→β→Prop} {m:List α} {a b c:β} (H:L2 R m [a,b,c]):∃ x y z,m=[x,y,z]∧R x a∧R y b∧R z c:=by
 cases H with
 |cons h1 H=>obtain⟨y,z,rfl,h2,h3⟩:=l2_2 H;exact⟨_,_,_,rfl,h1,h2,h3⟩
theorem CoE.val_inv{h e q} (H:CoE h e (.val q)):∃ v,e=.ret v∧Co h v q:=by
 cases H with|val hv=>exact⟨_,rfl,hv⟩
theorem ids1_lt{h v cv} (H:Co1 h v cv):∀ i∈ids1 v,i<h.length:=fun i hi=>hget_flat_lt (H.flat i hi)
section
variable {c:Ctx} {t:Tm} {h:List Ob} {ty e:TypeId} {i g n k sz:Nat} {xs new:List PV} {x:AV} {ex:Bool}
theorem opD_slice3{ty x lo hi m}:opD (.slice ty x lo hi (some m)) c t h=.ofO (slice3 c ty (ev c t x) (evo c t lo) (evo c t hi) (ev c t m)):=(rfl)
noncomputable def clearW(c:Ctx) (h:List Ob) (ty:TypeId) (x:AV):VH:=match c.under ty with
 |some (.slice el)=>clear? c h el x
 |_=>.no
theorem opD_clear{x ty}:opD (.call {callee:=.builtin .clear,args:=#[x],argTypes:=#[ty]}) c t h=clearW c h ty (ev c t x):=(rfl)
end
end Go.Ai

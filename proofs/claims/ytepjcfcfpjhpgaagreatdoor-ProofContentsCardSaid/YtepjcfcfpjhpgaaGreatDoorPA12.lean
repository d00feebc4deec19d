/- What is proved: rules for splitting on what is not known; calls upon a pointer while a frame ends. Conditions: as before. -/
import Derived.Test.YtepjcfcfpjhpgaaGreatDoorPA11
import Derived.Test.YtepjcfcfpjhpgaaGreatDoorPA10
set_option linter.all false
namespace Go.Ai
open Go
inductive Tg (A B:Prop):Type
 |mk (b:Bool)
def splitT(A B:Prop):Tg A B→Prop
 |.mk b=>(b=true→A)∧(b=false→B)
theorem spl{b:Bool} {X Y:Prop} (h1:b=true→X) (h2:b=false→Y):splitT X Y (.mk b):=⟨h1,h2⟩
section
variable {b:Bool} {A B:Prop}
theorem splitT_t:splitT A B (.mk true)=A:=by simp [splitT]
theorem splitT_f:splitT A B (.mk false)=B:=by simp [splitT]
theorem condW_b:condW (.p (.bool b)) A B=splitT A B (.mk b):=by
 cases b<;>simp [condW,splitT]
theorem gW_bt:gW (.p (.bool b)) true A B=splitT A B (.mk b):=by
 cases b<;>simp [gW,splitT]
theorem gW_bf:gW (.p (.bool b)) false A B=splitT B A (.mk b):=by
 cases b<;>simp [gW,splitT]
theorem LW_bt{X Y:Option AV} {f hs k}:LW (gL (.p (.bool b)) true X Y) f hs k=splitT (LW X f hs k) (LW Y f hs k) (.mk b):=by
 cases b<;>simp [gL,splitT]
theorem LW_bf{X Y:Option AV} {f hs k}:LW (gL (.p (.bool b)) false X Y) f hs k=splitT (LW Y f hs k) (LW X f hs k) (.mk b):=by
 cases b<;>simp [gL,splitT]
theorem ret_bool{b c:Bool} (h:b=c):AEnd.ret (.p (.bool b))=.ret (.p (.bool c)):=by rw[h]
end
theorem rwX:((∀ {A B},splitT A B (.mk true)=A)∧(∀ {A B},splitT A B (.mk false)=B))∧(∀ {b A B},condW (.p (.bool b)) A B=splitT A B (.mk b))∧(∀ {b A B},gW (.p (.bool b)) true A B=splitT A B (.mk b))∧(∀ {b A B},gW (.p (.bool b)) false A B=splitT B A (.mk b)):=⟨⟨splitT_t,splitT_f⟩,condW_b,gW_bt,gW_bf⟩
theorem ex_0{a:AV} {l}:extractW (.tup (a::l)) 0=.w a:=(rfl)
theorem ex_1{a b:AV} {l}:extractW (.tup (a::b::l)) 1=.w b:=(rfl)
theorem ex_2{a b e:AV} {l}:extractW (.tup (a::b::e::l)) 2=.w e:=(rfl)
theorem rwZ:(∀ {a:AV} {l},extractW (.tup (a::l)) 0=.w a)∧(∀ {a b:AV} {l},extractW (.tup (a::b::l)) 1=.w b)∧(∀ {a b e:AV} {l},extractW (.tup (a::b::e::l)) 2=.w e):=⟨ex_0,ex_1,ex_2⟩
end Go.Ai
namespace Go.Ai
open Go Go.RowKit
def allUn:List AV→Bool
 | []=>true
 |v::l=>(match v with | .un=>allUn l|_=>false)
theorem allUn_ok:∀ {l:List AV},allUn l=true→∀ (i:Nat) v,l[i]?=some v→v=.un:=by
 intro l
 induction l with
 |nil=>intro _ i v hv;simp at hv
 |cons a l ih=>
  intro h i v hv
  unfold allUn at h
  split at h
  ·cases i with
   |zero=>simpa using hv.symm
   |succ i=>exact ih h i v (by simpa using hv)
  ·cases h
noncomputable def fits(h:List Ob):List AV→List AV→Option (List Ob)
 | [],[]=>some h
 |v::l,u::m=>(match u with
  |.un=>fits h l m
  |.p q=>(match pure1 h v with
   |some (q',h)=>cond (PV.same q' q) (fits h l m) none
   |none=>none)
  |.agg us=>(match v with
   |.agg cs=>cond (Nat.beq us.length cs.length&&allUn us) (fits h l m) none
   |_=>none)
  |_=>none)
 |_,_=>none
theorem fits_ok{P:Program} {w:World}:∀ (l m:List AV) (E:Rn) (h h2:List Ob) (xs:List Value),WR E h w→LR E l xs→fits h l m=some h2 →
  ∃ E2,Adv E h w E2 h2 w∧LR E2.none m xs:=by
 intro l
 induction l with
 |nil=>
  intro m E h h2 xs W hl hf
  cases m with
  |nil=>
   simp only[fits,Option.some.injEq]at hf
   subst hf
   refine⟨E,Adv.refl W,?_,fun i x v hx=>by simp at hx⟩
   have:=hl.1;simpa using this
  |cons u m=>cases hf
 |cons v l ih=>
  intro m E h h2 xs W hl hf
  cases m with
  |nil=>cases hf
  |cons u m=>
   cases xs with
   |nil=>have:=hl.1;simp at this
   |cons x xs=>
    have hx:VR E v x:=hl.2 0 v x rfl rfl
    have hl':LR E l xs:=⟨by have:=hl.1;simpa using this,fun i y z hy hz=>hl.2 (i+1) y z (by simpa using hy) (by simpa using hz)⟩
    cases u with
    |un=>
     simp only[fits]at hf
     obtain⟨E2,A,hm⟩:=ih m E h h2 xs W hl' hf
     exact⟨E2,A,.cons (.un x) hm⟩
    |p q=>
     simp only[fits]at hf
     cases hp:pure1 h v with
     |none=>rw[hp]at hf;cases hf
     |some z=>
      obtain⟨q',h1⟩:=z
      rw[hp]at hf
      simp only at hf
      cases hs:PV.same q' q with
      |false=>rw[hs]at hf;cases hf
      |true=>
       rw[hs]at hf
       simp only[cond]at hf
       have:=PV.same_eq q' q hs
       subst this
       obtain⟨E1,A1,h3⟩:=pure1_ok (P:=P) v E h q' h1 x W hx hp
       obtain⟨E2,A2,hm⟩:=ih m E1 h1 h2 xs A1.wr (hl'.mono A1.le) hf
       exact⟨E2,A1.trans A2,.cons (.p (h3.mono A2.le.f)) hm⟩
    |agg us=>
     simp only[fits]at hf
     split at hf
     ·rename_i cs
      cases hb:(Nat.beq us.length cs.length&&allUn us)with
      |false=>rw[hb]at hf;cases hf
      |true=>
       rw[hb]at hf
       simp only[cond]at hf
       simp only[Bool.and_eq_true,Nat.beq_eq]at hb
       obtain⟨E2,A,hm⟩:=ih m E h h2 xs W hl' hf
       refine⟨E2,A,.cons ?_ hm⟩
       cases hx with
       |agg hln ho hp=>exact .agg (hb.1.trans hln) ho fun i y v hy _=>by rw[allUn_ok hb.2 i y hy];exact .un v
     ·cases hf
    |_=>cases hf
noncomputable def fitV(h:List Ob) (v u:AV):Option (List Ob):=
 match v,u with
 |.tup l,.tup m=>fits h l m
 |v,u=>fits h [v] [u]
theorem fitV_ok{P:Program} {w:World} {E:Rn} {h h2:List Ob} {v u:AV} {x:Value} (W:WR E h w) (hv:VR E v x) (hf:fitV h v u=some h2):∃ E2,Adv E h w E2 h2 w∧VR E2.none u x:=by
 unfold fitV at hf
 split at hf
 ·rename_i l m
  cases hv with
  | @tup _ vs hl hp=>
   obtain⟨E2,A,hm⟩:=fits_ok (P:=P) l m E h h2 vs.toList W ⟨by simpa using hl,fun i x v hx hv=>hp i x v hx (by simpa using hv)⟩ hf
   exact⟨E2,A,.tup (by simpa using hm.1) fun i x v hx hv=>hm.2 i x v hx (by simpa using hv)⟩
 ·obtain⟨E2,A,hm⟩:=fits_ok (P:=P) [v] [u] E h h2 [x] W (.one hv) hf
  exact⟨E2,A,hm.2 0 u x rfl rfl⟩
def Rn.cut(E:Rn) (n:Nat):Rn:={a:=fun i g=>if i<n then E.a i g else Option.none,f:=E.f}
theorem Rn.cut_some{E:Rn} {n i g:Nat} {x:Nat×Nat} (h:(E.cut n).a i g=some x):i<n∧E.a i g=some x:=by
 have h:(if i<n then E.a i g else Option.none)=some x:=h
 split at h
 ·exact⟨by assumption,h⟩
 ·cases h
theorem Rn.none_cut(E:Rn) (n:Nat):E.none.le (E.cut n):=⟨fun i g x hx=>(by cases hx),fun _ _ h=>h⟩
theorem Adv.dropTo{E w E' h h' w'} (W0:WR E h w) (A:Adv E h w E' h' w') (hf:∀ i,i<h.length→flat (hget h i)=true∧hget h' i=hget h i):Adv E h w (E'.cut h.length) h w':=by
 have W:=A.wr
 have hl:=A.len
 have cut:∀ i g,i<h.length→(E'.cut h.length).a i g=E'.a i g:=fun i g hi=>if_pos hi
 refine⟨⟨fun i g x hx=>?_,A.le.f⟩,⟨fun i g b n ha=>W.bnd _ _ _ _ (Rn.cut_some ha).2,W.frz,?_,?_,?_,?_,fun i g hi=>if_neg (by omega),?_⟩,A.keep,?_,A.fgain,Nat.le_refl _,?_⟩
 ·by_cases hi:i<h.length
  ·rw[cut i g hi];exact A.le.a _ _ _ hx
  ·rw[W0.new i g (by omega)]at hx;cases hx
 ·intro i b n hi ha
  obtain⟨f1,f2⟩:=hf i hi
  have:=W.obj i b n (by omega) (by rw[f2];exact(Rn.cut_some ha).2)
  rw[f2]at this
  generalize hget h i=ob at this f1
  generalize w'.heap[b]?=x at this
  cases this with
  |row hs hz h0 hn he hx=>exact .row hs hz h0 hn he hx
  |fr h0 hn hx=>exact .fr h0 hn hx
  |_=>cases f1
 ·intro i b n hi ha hs
  obtain⟨_,f2⟩:=hf i hi
  exact W.own i b n (by omega) (by rw[f2];exact(Rn.cut_some ha).2) (by rw[f2];exact hs)
 ·intro i j b n m hi hj ha hb h1 h2
  obtain⟨_,f2⟩:=hf i hi
  obtain⟨_,g2⟩:=hf j hj
  exact W.inj i j b n m (by omega) (by omega) (by rw[f2];exact(Rn.cut_some ha).2) (by rw[g2];exact(Rn.cut_some hb).2) (by rw[f2];exact h1) (by rw[g2];exact h2)
 ·intro i g hi hg
  obtain⟨_,f2⟩:=hf i hi
  rw[cut i g hi]
  exact W.old i g (by omega) (by rw[f2];exact hg)
 ·intro i g x hi hx
  obtain⟨_,f2⟩:=hf i hi
  obtain⟨y,hy⟩:=W.cur i g x (by omega) (Rn.cut_some hx).2
  exact⟨y,by rw[cut _ _ hi,← f2];exact hy⟩
 ·intro i b n hi hd ha hb
  obtain⟨_,f2⟩:=hf i hi
  obtain⟨j,m,k1,k2,k3,k4⟩:=A.gain i b n (by omega) (by rw[f2];exact hd) (by rw[f2];exact(Rn.cut_some ha).2) hb
  exact⟨j,m,k1,k2,k3,by rw[f2]at k4;exact k4⟩
 ·intro i hi hn
  exact⟨rfl,fun g=>by rw[cut i g hi];exact(A.idle i hi hn).2 g⟩
def sameRows:List Ob→List Ob→Bool
 | [],_=>true
 |a::l,b::m=>cond (flat a) (cond (Ob.same b a) (sameRows l m) false) false
 |_,_=>false
theorem sameRows_ok:∀ (h h':List Ob),sameRows h h'=true→∀ i,i<h.length→flat (hget h i)=true∧hget h' i=hget h i:=by
 intro h
 induction h with
 |nil=>intro h' _ i hi;simp at hi
 |cons a l ih=>
  intro h' hs i hi
  cases h' with
  |nil=>cases hs
  |cons b m=>
   unfold sameRows at hs
   cases hf:flat a with
   |false=>rw[hf]at hs;cases hs
   |true=>
    rw[hf]at hs
    simp only[cond]at hs
    cases hb:Ob.same b a with
    |false=>rw[hb]at hs;cases hs
    |true=>
     rw[hb]at hs
     cases i with
     |zero=>exact⟨hf,Ob.same_eq _ _ hb⟩
     |succ i=>exact ih m hs i (by simpa using hi)
noncomputable def fitR(h h':List Ob) (v u:AV):Bool:=match fitV h' v u with|some h2=>sameRows h h2|none=>false
theorem callAt_fit{c:Ctx} {P:Program} {F:FuncId} {args:List AV} {v u:AV} {h h':List Ob} (H:CallAt c P (.fn F args) h none (.ret v) h' none) (hp:fitR h h' v u=true) :
  CallAt c P (.fn F args) h none (.ret u) h none:=by
 intro E w u0 W G hu vs l
 obtain⟨h1,h2⟩:=H E w u0 W G hu vs l
 refine⟨h1,fun cs hcs=>?_⟩
 obtain⟨E',w',u',fr,x,A,k1,k2,k3,k4⟩:=h2 cs hcs
 unfold fitR at hp
 split at hp
 ·rename_i h3 hf
  obtain⟨E2,A2,hx⟩:=fitV_ok (P:=P) A.wr k3 hf
  exact⟨E2.cut h.length,w',u',fr,x,(A.trans A2).dropTo W (sameRows_ok _ _ hp),fun m hm=>(by cases hm),k2,hx.mono (Rn.none_cut _ _),k4⟩
 ·cases hp
noncomputable def fitIs(h:List Ob) (x:Option CR) (u:AV):Bool:=
 match x with
 |some x=>(match x with | .mk e h' r=>(match e with | .ret v=>(match r with|none=>fitR h h' v u|_=>false)|_=>false))
 |none=>false
theorem fitIs_ok{c:Ctx} {P:Program} {o:Orc} (C:CtxOk c P) (hO:OrcOk c P o) {k:Nat} {F:FuncId} {args:List AV} {u:AV} {h:List Ob} (hx:fitIs h (callN c o k (.fn F args) h none) u=true) :
  CallAt c P (.fn F args) h none (.ret u) h none:=by
 unfold fitIs at hx
 split at hx
 ·rename_i y hy
  obtain⟨e,h',r⟩:=y
  cases e with
  |pan u=>cases hx
  |ret v=>
   cases r with
   |some m=>cases hx
   |none=>exact callAt_fit (callN_ok C hO k _ _ _ _ _ _ hy) hx
 ·cases hx
end Go.Ai
namespace Go.Ai
open Go
section
variable {c:Ctx} {o:Orc} {rd:Option Nat} {Q:Post} {t:Tm} {h:List Ob} {d:List AD} {r:Option RM} {k:KP}
end
section
variable {h h':List Ob}
theorem foldr_ids{f:AV→List Nat→List Nat} (hf:∀ v s,f v s=f v []++s):∀ (l:List AV) (s:List Nat),l.foldr f s=l.foldr f []++s:=by
  intro l
  induction l with
  |nil=>intro s;rfl
  |cons a l ih=>
    intro s
    rw[List.foldr_cons,List.foldr_cons,hf,ih,hf a (l.foldr f []),List.append_assoc]
theorem idsN_app:∀ (k:Nat) (v:AV) (s:List Nat),idsN k v s=idsN k v []++s:=by
  intro k
  induction k with
  |zero=>intro v s;rfl
  |succ k ih=>
    intro v s
    cases v with
    |func f a b=>
      show a.foldr (idsN k) (b.foldr (idsN k) s)=a.foldr (idsN k) (b.foldr (idsN k) [])++s
      rw[foldr_ids ih b s,foldr_ids ih a (_++s),foldr_ids ih a (b.foldr (idsN k) []),List.append_assoc]
    |face t v=>exact ih v s
    |agg l=>exact foldr_ids ih l s
    |tup l=>exact foldr_ids ih l s
    |_=>rfl
theorem idsL_app:∀ (l:List AV) (s:List Nat),idsL l s=idsL l []++s:=by
  intro l
  induction l with
  |nil=>intro s;rfl
  |cons v l ih=>
    intro s
    show idsN 6 v (idsL l s)=idsN 6 v (idsL l [])++s
    rw[idsN_app,ih,idsN_app 6 v (idsL l []),List.append_assoc]
theorem mem_foldr{i k:Nat}:∀ {l:List AV},i∈l.foldr (idsN k) []↔∃ v∈l,i∈idsN k v []:=by
  intro l
  induction l with
  | nil => constructor
           · intro q;cases q
           · rintro⟨v,q,_⟩;cases q
  |cons v l ih=>rw[List.foldr_cons,idsN_app,List.mem_append,ih];simp
theorem Tm.ids_app:∀ (t:Tm) (s:List Nat),t.ids s=t.ids []++s:=by
  intro t
  induction t with
  |lf=>intro s;rfl
  |nd v a b iha ihb=>
    intro s
    show idsN 6 v (a.ids (b.ids s))=idsN 6 v (a.ids (b.ids []))++s
    rw[idsN_app,iha (b.ids s),ihb s,idsN_app 6 v (a.ids (b.ids [])),iha (b.ids [])]
    simp only[List.append_assoc]
theorem nodup_le:∀ {s L:List Nat},s.Nodup→(∀ i∈s,i∈L)→s.length≤L.length:=by
  intro s
  induction s with
  |nil=>intro L _ _;exact Nat.zero_le _
  |cons a s ih=>
    intro L hn hs
    rw[List.nodup_cons]at hn
    have ha:=hs a List.mem_cons_self
    have:=ih (L:=L.erase a) hn.2 (fun i hi=>(List.mem_erase_of_ne (by rintro rfl;exact hn.1 hi)).2 (hs i (List.mem_cons_of_mem _ hi)))
    rw[List.length_erase_of_mem ha]at this
    have hp:0<L.length:=List.length_pos_of_mem ha
    rw[List.length_cons];omega
def Cl(h:List Ob) (L:List Nat):Prop:=∀ i∈L,∀ j∈obIds (hget h i) [],j∈L
theorem reach_cl {L : List Nat} (hc : Cl h L) : ∀ (k n : Nat) (s : List Nat), s.Nodup → (∀ i ∈ s, i ∈ L) → n ≤ s.length → (∀ i ∈ s.take n, ∀ j ∈ obIds (hget h i) [], j ∈ s) → L.length < n + k →
    ∃ s':List Nat,s'.Nodup∧(∀ {R:Type} (F:List Nat→R),reach h k n s F=F s')∧(∀ i∈s,i∈s')∧(∀ i∈s',i∈L)∧Cl h s':=by
  intro k
  induction k with
  |zero=>
    intro n s hn hs hl _ hk
    have:=nodup_le hn hs
    omega
  |succ k ih=>
    intro n s hn hs hl ht hk
    cases hd:s.drop n with
    |nil=>
      refine⟨s,hn,fun F=>?_,fun i hi=>hi,hs,fun i hi=>?_⟩
      · show(match s.drop n with
          | []=>F s
          |i::_=>addNew (obIds (hget h i) []) s fun s=>forceN (n+1) fun n=>reach h k n s F)=_
        rw[hd]
      · have hnl:s.length≤n:=List.drop_eq_nil_iff.1 hd
        rw[List.take_of_length_le hnl]at ht
        exact ht i hi
    |cons i l=>
      obtain⟨s1,h1,h2,h3,m,h4⟩:=addNew_spec (obIds (hget h i) []) s hn
      have hin:s[n]?=some i:=by
        have:(s.drop n)[0]?=some i:=by rw[hd];rfl
        simpa [List.getElem?_drop]using this
      have hnl:n<s.length:=(List.getElem?_eq_some_iff.1 hin).1
      have his:i∈s:=List.mem_of_getElem? hin
      have htk:s1.take (n+1)=s.take n++[i]:=by
        rw[h4,List.take_append_of_le_length (by omega),List.take_succ,hin];rfl
      obtain⟨s',g1,g2,g3,g4,g5⟩:=ih (n+1) s1 h1 (fun j hj=>by
          rcases(h3 j).1 hj with q|q
          · exact hc i (hs i his) j q
          · exact hs j q) (by rw[h4,List.length_append];omega) (fun x hx j hj=>by
          rw[htk]at hx
          rcases List.mem_append.1 hx with q|q
          · exact(h3 j).2 (.inr (ht x q j hj))
          · rw[List.mem_singleton.1 q]at hj
            exact(h3 j).2 (.inl hj)) (by omega)
      refine⟨s',g1,fun F=>?_,fun j hj=>g3 j ((h3 j).2 (.inr hj)),g4,g5⟩
      show(match s.drop n with
        | []=>F s
        |i::_=>addNew (obIds (hget h i) []) s fun s=>forceN (n+1) fun n=>reach h k n s F)=_
      rw[hd]
      show addNew (obIds (hget h i) []) s (fun s=>forceN (n+1) fun n=>reach h k n s F)=_
      rw[h2,forceN_eq,g2]
theorem reach_all {l L : List Nat} (hl : ∀ i ∈ l, i ∈ L) (hc : Cl h L) (hn : L.length ≤ 9999) :
    ∃ s':List Nat,s'.Nodup∧(∀ {R:Type} (F:List Nat→R),(addNew l [] fun s=>reach h 10000 0 s F)=F s')∧(∀ i∈l,i∈s')∧(∀ i∈s',i∈L)∧Cl h s':=by
  obtain⟨s1,h1,h2,h3,_⟩:=addNew_spec l [] List.nodup_nil
  obtain⟨s',g1,g2,g3,g4,g5⟩:=reach_cl hc 10000 0 s1 h1 (fun i hi=>by
    rcases(h3 i).1 hi with q|q
    · exact hl i q
    · cases q) (Nat.zero_le _) (fun i hi=>by rw[List.take_zero]at hi;cases hi) (by omega)
  exact⟨s',g1,fun F=>by rw[h2,g2],fun i hi=>g3 i ((h3 i).2 (.inl hi)),g4,g5⟩
end
inductive S1 where
 |co (c:CV)
 |ptr (n off:Nat)
 |map (n:Nat)
 |yield (n:Nat)
inductive Is1 (h:List Ob) (ρ:List Nat):AV→S1→Prop
 |co {v c} (H:Co1 h v c):Is1 h ρ v (.co c)
 |ptr {n i off:Nat} (hn:ρ[n]?=some i):Is1 h ρ (.ptr i off) (.ptr n off)
 |map {n i:Nat} (hn:ρ[n]?=some i):Is1 h ρ (.map i) (.map n)
 |yield {n i:Nat} (hn:ρ[n]?=some i):Is1 h ρ (.yield i) (.yield n)
inductive S2 where
 |one (s:S1)
 |agg (l:List S1)
 |func (f:FuncId) (a b:List S1)
 |face (t:TypeId) (s:S1)
 |faceA (t:TypeId) (l:List S1)
inductive Is2 (h:List Ob) (ρ:List Nat):AV→S2→Prop
 |one {v s} (H:Is1 h ρ v s):Is2 h ρ v (.one s)
 |agg {cs l} (H:L2 (Is1 h ρ) cs l):Is2 h ρ (.agg cs) (.agg l)
 |func {f a b la lb} (ha:L2 (Is1 h ρ) a la) (hb:L2 (Is1 h ρ) b lb):Is2 h ρ (.func f a b) (.func f la lb)
 |face {t v s} (H:Is1 h ρ v s):Is2 h ρ (.face t v) (.face t s)
 |faceA {t cs l} (H:L2 (Is1 h ρ) cs l):Is2 h ρ (.face t (.agg cs)) (.faceA t l)
inductive DO where
 |cells (e:TypeId) (l:List S2)
 |map (es:List (PV×PV))
 |defd (b:Bool)
 |loop (st:LoopState) (p:Option Code) (fn:FuncId) (n:Nat) (ps:List Tmp) (a b:Code) (df:Nat) (sl:List (Tmp×S2))
inductive IsO (h:List Ob) (ρ:List Nat):Ob→DO→Prop
 |cells {e cs l} (H:L2 (Is2 h ρ) cs l):IsO h ρ (.cells e cs) (.cells e l)
 |map (es):IsO h ρ (.map es) (.map es)
 |defd (b):IsO h ρ (.defd b) (.defd b)
 |loop {st p fn n t ps a b df j sl} (hd:ρ[df]?=some j) (hs:∀ i s,(i,s)∈sl→Is2 h ρ (t.get i) s) (hi:∀ i∈t.ids [],i∈ρ∨flat (hget h i)=true) (hb:(t.ids []).length≤500) :
   IsO h ρ (.loop (.mk st p fn n t ps a b j)) (.loop st p fn n ps a b df sl)
structure Den (h:List Ob) (ρ:List Nat) (D:List DO):Prop where
 len:ρ.length=D.length
 nd:ρ.Nodup
 at':∀ (n:Nat) d i,D[n]?=some d→ρ[n]?=some i→IsO h ρ (hget h i) d
inductive SCl where
 |fn (f:FuncId) (l:List S2)
 |yield (n:Nat) (l:List S2)
inductive IsC (h:List Ob) (ρ:List Nat):Callee'→SCl→Prop
 |fn {f as l} (H:L2 (Is2 h ρ) as l):IsC h ρ (.fn f as) (.fn f l)
 |yield {n i:Nat} {as l} (hn:ρ[n]?=some i) (H:L2 (Is2 h ρ) as l):IsC h ρ (.yield i as) (.yield n l)
inductive SE where
 |ret (s:S2)
 |rets (l:List S2)
 |pan (s:S2)
inductive IsE (h:List Ob) (ρ:List Nat):AEnd→SE→Prop
 |ret {v s} (H:Is2 h ρ v s):IsE h ρ (.ret v) (.ret s)
 |rets {vs l} (H:L2 (Is2 h ρ) vs l):IsE h ρ (.ret (.tup vs)) (.rets l)
 |pan {v s} (H:Is2 h ρ v s):IsE h ρ (.pan v) (.pan s)
def S2.wt:S2→Nat
 |.one _=>1
 |.agg l=>l.length
 |.func _ a b=>a.length+b.length
 |.face _ _=>1
 |.faceA _ l=>l.length
def wts:List S2→Nat
 | []=>0
 |s::l=>s.wt+wts l
def DO.wt:DO→Nat
 |.cells _ l=>wts l
 |.map _=>0
 |.defd _=>0
 |.loop ..=>501
def wtD:List DO→Nat
 | []=>0
 |d::l=>d.wt+wtD l
def SCl.wt:SCl→Nat
 |.fn _ l=>wts l
 |.yield _ l=>wts l+1
def SE.wt:SE→Nat
 |.ret s=>s.wt
 |.rets l=>wts l
 |.pan s=>s.wt
section
variable {h h':List Ob} {ρ ρ':List Nat} {v:AV} {r:RenF}
theorem Co1.ids_le{c:CV} (H:Co1 h v c):(ids1 v).length≤1:=by cases H<;>simp [ids1]
theorem Is1.ids{s:S1} (H:Is1 h ρ v s) (k:Nat):(∀ i∈idsN (k+1) v [],i∈ρ∨flat (hget h i)=true)∧(idsN (k+1) v []).length≤1:=by
 cases H with
 |co H=>
  rw[H.idsN,List.append_nil]
  exact⟨fun i hi=>.inr (H.flat i hi),H.ids_le⟩
 | @ptr n i off hn=>exact⟨fun j hj=>.inl (by rw[List.mem_singleton.1 (show j ∈ [i]from hj)];exact List.mem_of_getElem? hn),Nat.le_refl 1⟩
 | @map n i hn=>exact⟨fun j hj=>.inl (by rw[List.mem_singleton.1 (show j ∈ [i]from hj)];exact List.mem_of_getElem? hn),Nat.le_refl 1⟩
 | @yield n i hn=>exact⟨fun j hj=>.inl (by rw[List.mem_singleton.1 (show j ∈ [i]from hj)];exact List.mem_of_getElem? hn),Nat.le_refl 1⟩
theorem is1_foldr{l:List AV} {m:List S1} (H:L2 (Is1 h ρ) l m) (k:Nat):(∀ i∈l.foldr (idsN (k+1)) [],i∈ρ∨flat (hget h i)=true)∧(l.foldr (idsN (k+1)) []).length≤m.length:=by
 induction H with
 |nil=>exact⟨fun i hi=>(by cases hi),Nat.le_refl _⟩
 |cons h1 _ ih=>
  obtain⟨a,b⟩:=h1.ids k
  rw[List.foldr_cons,idsN_app,List.length_append,List.length_cons]
  refine⟨fun i hi=>?_,by omega⟩
  rcases List.mem_append.1 hi with q|q
  ·exact a i q
  ·exact ih.1 i q
theorem Is2.ids{s:S2} (H:Is2 h ρ v s) (k:Nat):(∀ i∈idsN (k+2) v [],i∈ρ∨flat (hget h i)=true)∧(idsN (k+2) v []).length≤s.wt:=by
 cases H with
 |one H=>exact H.ids (k+1)
 |agg H=>exact is1_foldr H k
 | @func f a b la lb ha hb=>
  have e:idsN (k+2) (.func f a b) []=a.foldr (idsN (k+1)) []++b.foldr (idsN (k+1)) []:=by
   show a.foldr (idsN (k+1)) (b.foldr (idsN (k+1)) [])=_
   exact foldr_ids (idsN_app (k+1)) _ _
  obtain⟨a1,a2⟩:=is1_foldr ha k
  obtain⟨b1,b2⟩:=is1_foldr hb k
  rw[e,List.length_append]
  refine⟨fun i hi=>?_,by show _≤la.length+lb.length;omega⟩
  rcases List.mem_append.1 hi with q|q
  ·exact a1 i q
  ·exact b1 i q
 |face H=>exact H.ids k
 | @faceA t cs l H=>
  have:=is1_foldr H k
  cases k with
  |zero=>
   have e:∀ l:List AV,l.foldr (idsN 0) []=[]:=by
    intro l
    induction l with
    |nil=>rfl
    |cons a l ih=>rw[List.foldr_cons,ih];rfl
   have e2:idsN 2 (.face t (.agg cs)) []=[]:=e cs
   rw[e2]
   exact⟨fun i hi=>(by cases hi),Nat.zero_le _⟩
  |succ k=>exact is1_foldr H k
theorem is2_foldr{l:List AV} {m:List S2} (H:L2 (Is2 h ρ) l m) (k:Nat):(∀ i∈l.foldr (idsN (k+2)) [],i∈ρ∨flat (hget h i)=true)∧(l.foldr (idsN (k+2)) []).length≤wts m:=by
 induction H with
 |nil=>exact⟨fun i hi=>(by cases hi),Nat.le_refl _⟩
 |cons h1 _ ih=>
  obtain⟨a,b⟩:=h1.ids k
  rw[List.foldr_cons,idsN_app,List.length_append]
  refine⟨fun i hi=>?_,by show _≤_+wts _;omega⟩
  rcases List.mem_append.1 hi with q|q
  ·exact a i q
  ·exact ih.1 i q
theorem idsL_foldr(l:List AV) (s:List Nat):idsL l s=l.foldr (idsN 6) s:=by
 induction l with
 |nil=>rfl
 |cons v l ih=>show idsN 6 v (idsL l s)=_;rw[ih];rfl
theorem is2_idsL{l:List AV} {m:List S2} (H:L2 (Is2 h ρ) l m):(∀ i∈idsL l [],i∈ρ∨flat (hget h i)=true)∧(idsL l []).length≤wts m:=by
 rw[idsL_foldr];exact is2_foldr H 4
theorem IsO.ids{ob:Ob} {d:DO} (H:IsO h ρ ob d):(∀ i∈obIds ob [],i∈ρ∨flat (hget h i)=true)∧(obIds ob []).length≤d.wt:=by
 cases H with
 |cells H=>exact is2_idsL H
 |map es=>exact⟨fun i hi=>(by cases hi),Nat.le_refl _⟩
 |defd b=>exact⟨fun i hi=>(by cases hi),Nat.le_refl _⟩
 | @loop st p fn n t ps a b df j sl hd hs hi hb=>
  refine⟨fun i hi'=>?_,by show(j::t.ids []).length≤501;rw[List.length_cons];omega⟩
  have hi':i∈j::t.ids []:=hi'
  rcases List.mem_cons.1 hi' with q|q
  ·rw[q];exact .inl (List.mem_of_getElem? hd)
  ·exact hi i q
theorem IsO.gen{ob:Ob} {d:DO} (H:IsO h ρ ob d):obGen ob=0∧flat ob=false∧ob ≠ .dead:=by cases H<;>exact⟨rfl,rfl,by intro q;cases q⟩
theorem IsC.ids{cl:Callee'} {s:SCl} (H:IsC h ρ cl s):(∀ i∈cl.roots,i∈ρ∨flat (hget h i)=true)∧cl.roots.length≤s.wt:=by
 cases H with
 |fn H=>exact is2_idsL H
 | @yield n i as l hn H=>
  obtain⟨a,b⟩:=is2_idsL H
  refine⟨fun j hj=>?_,by show(i::idsL as []).length≤wts l+1;rw[List.length_cons];omega⟩
  have hj:j∈i::idsL as []:=hj
  rcases List.mem_cons.1 hj with q|q
  ·rw[q];exact .inl (List.mem_of_getElem? hn)
  ·exact a j q
theorem IsE.ids{e:AEnd} {s:SE} (H:IsE h ρ e s):(∀ i∈idsEnd e [],i∈ρ∨flat (hget h i)=true)∧(idsEnd e []).length≤s.wt:=by
 cases H with
 |ret H=>exact H.ids 4
 |rets H=>exact is2_foldr H 3
 |pan H=>exact H.ids 4
theorem Den.lt{D:List DO} (H:Den h ρ D):∀ i∈ρ,i<h.length∧flat (hget h i)=false∧obGen (hget h i)=0:=by
 intro i hi
 obtain⟨n,hn⟩:=List.getElem?_of_mem hi
 have hnl:n<D.length:=by rw[← H.len];exact(List.getElem?_eq_some_iff.1 hn).1
 obtain⟨a,b,c⟩:=(H.at' n _ i (List.getElem?_eq_getElem hnl) hn).gen
 refine⟨?_,b,a⟩
 rw[hget_eq]at c
 by_cases q:i<h.length
 ·exact q
 ·rw[List.getElem?_eq_none (by omega)]at c;exact absurd rfl c
theorem den_cl{D:List DO} (H:Den h ρ D) {l:List Nat} (hl:∀ i∈l,i∈ρ∨flat (hget h i)=true):Cl h (l++(ρ++ρ.flatMap fun i=>obIds (hget h i) [])):=by
 have inρ:∀ i∈ρ,∀ j∈obIds (hget h i) [],j∈l++(ρ++ρ.flatMap fun i=>obIds (hget h i) []):=fun i hi j hj=>
  List.mem_append_right _ (List.mem_append_right _ (List.mem_flatMap.2 ⟨i,hi,hj⟩))
 have inF:∀ i,flat (hget h i)=true→∀ j∈obIds (hget h i) [],j∈l++(ρ++ρ.flatMap fun i=>obIds (hget h i) []):=fun i hi j hj=>by
  rw[flat_ids hi]at hj;cases hj
 have ofD:∀ i∈ρ,∀ j∈obIds (hget h i) [],j∈ρ∨flat (hget h j)=true:=fun i hi=>by
  obtain⟨n,hn⟩:=List.getElem?_of_mem hi
  have hnl:n<D.length:=by rw[← H.len];exact(List.getElem?_eq_some_iff.1 hn).1
  exact(H.at' n _ i (List.getElem?_eq_getElem hnl) hn).ids.1
 intro i hi
 rcases List.mem_append.1 hi with q|q
 ·rcases hl i q with q|q
  ·exact inρ i q
  ·exact inF i q
 ·rcases List.mem_append.1 q with q|q
  ·exact inρ i q
  ·obtain⟨k,hk,hik⟩:=List.mem_flatMap.1 q
   rcases ofD k hk i hik with q|q
   ·exact inρ i q
   ·exact inF i q
theorem den_len{D:List DO} (H:Den h ρ D):(ρ.flatMap fun i=>obIds (hget h i) []).length≤wtD D:=by
 have key:∀ (l:List Nat) (E:List DO),(∀ (n:Nat) d i,E[n]?=some d→l[n]?=some i→(obIds (hget h i) []).length≤d.wt)→l.length=E.length→(l.flatMap fun i=>obIds (hget h i) []).length≤wtD E:=by
  intro l
  induction l with
  |nil=>intro E _ _;exact Nat.zero_le _
  |cons a l ih=>
   intro E hE hl
   cases E with
   |nil=>cases hl
   |cons d E=>
    have h1:=hE 0 d a rfl rfl
    have h2:=ih E (fun n d i x y=>hE (n+1) d i (by simpa using x) (by simpa using y)) (by simpa using hl)
    rw[List.flatMap_cons,List.length_append]
    show _≤d.wt+wtD E
    omega
 exact key ρ D (fun n d i x y=>(H.at' n d i x y).ids.2) H.len
structure Tr (r:RenF) (h h':List Ob) (ρ ρ':List Nat):Prop where
 emb:Emb r h h'
 map:∀ (n i:Nat),ρ[n]?=some i→∃ j,ρ'[n]?=some j∧r i 0=some (j,0)
theorem ren0_some{R:Type} {i j:Nat} {f:Nat→R} {no:R} (hr:r i 0=some (j,0)):ren0 r i f no=f j:=by
 unfold ren0;rw[hr];rfl
theorem Is1.tr(T:Tr r h h' ρ ρ') {s:S1} (H:Is1 h ρ v s) (k:Nat) (hc:Cov r h (idsN (k+1) v [])):Is1 h' ρ' (renN r (k+1) v) s:=by
 cases H with
 |co H=>
  rw[H.idsN,List.append_nil]at hc
  exact .co (H.ren T.emb hc k)
 | @ptr n i off hn=>
  obtain⟨j,h1,h2⟩:=T.map n i hn
  have:renN r (k+1) (.ptr i off)=.ptr j off:=ren0_some h2
  rw[this];exact .ptr h1
 | @map n i hn=>
  obtain⟨j,h1,h2⟩:=T.map n i hn
  have:renN r (k+1) (.map i)=.map j:=ren0_some h2
  rw[this];exact .map h1
 | @yield n i hn=>
  obtain⟨j,h1,h2⟩:=T.map n i hn
  have:renN r (k+1) (.yield i)=.yield j:=ren0_some h2
  rw[this];exact .yield h1
theorem is1_tr(T:Tr r h h' ρ ρ') {l:List AV} {m:List S1} (H:L2 (Is1 h ρ) l m) (k:Nat) (hc:Cov r h (l.foldr (idsN (k+1)) [])):L2 (Is1 h' ρ') (l.map (renN r (k+1))) m:=by
 induction H with
 |nil=>exact .nil
 |cons h1 _ ih=>
  rw[List.foldr_cons,idsN_app]at hc
  exact .cons (h1.tr T k hc.left) (ih hc.right)
theorem Is2.tr(T:Tr r h h' ρ ρ') {s:S2} (H:Is2 h ρ v s) (k:Nat) (hc:Cov r h (idsN (k+3) v [])):Is2 h' ρ' (renN r (k+3) v) s:=by
 cases H with
 |one H=>exact .one (H.tr T (k+2) hc)
 |agg H=>exact .agg (is1_tr T H (k+1) hc)
 | @func f a b la lb ha hb=>
  have e:idsN (k+3) (.func f a b) []=a.foldr (idsN (k+2)) []++b.foldr (idsN (k+2)) []:=by
   show a.foldr (idsN (k+2)) (b.foldr (idsN (k+2)) [])=_
   exact foldr_ids (idsN_app (k+2)) _ _
  rw[e]at hc
  exact .func (is1_tr T ha (k+1) hc.left) (is1_tr T hb (k+1) hc.right)
 |face H=>exact .face (H.tr T (k+1) hc)
 |faceA H=>exact .faceA (is1_tr T H k hc)
theorem is2_tr(T:Tr r h h' ρ ρ') {l:List AV} {m:List S2} (H:L2 (Is2 h ρ) l m) (k:Nat) (hc:Cov r h (l.foldr (idsN (k+3)) [])):L2 (Is2 h' ρ') (l.map (renN r (k+3))) m:=by
 induction H with
 |nil=>exact .nil
 |cons h1 _ ih=>
  rw[List.foldr_cons,idsN_app]at hc
  exact .cons (h1.tr T k hc.left) (ih hc.right)
theorem Tm.get_ren(r:RenF):∀ (t:Tm) (i:Nat),(t.ren r).get i=Ai.ren r (t.get i):=by
 intro t
 induction t with
 |lf=>intro i;rfl
 |nd v a b iha ihb=>
  intro i
  cases i with
  |zero=>rfl
  |succ m=>
   show cond (Nat.beq (Nat.mod m 2) 0) ((a.ren r).get (Nat.div m 2)) ((b.ren r).get (Nat.div m 2))=Ai.ren r (cond (Nat.beq (Nat.mod m 2) 0) (a.get (Nat.div m 2)) (b.get (Nat.div m 2)))
   rw[iha,ihb]
   cases Nat.beq (Nat.mod m 2) 0<;>rfl
theorem foldr_ren_from{k:Nat} (ih:∀ v,∀ i'∈idsN k (renN r k v) [],∃ i∈idsN k v [],∃ g g',r i g=some (i',g')) :
  ∀ (l:List AV),∀ i'∈(l.map (renN r k)).foldr (idsN k) [],∃ i∈l.foldr (idsN k) [],∃ g g',r i g=some (i',g'):=by
 intro l i' hi
 obtain⟨w,hw,hi⟩:=mem_foldr.1 hi
 obtain⟨v,hv,rfl⟩:=List.mem_map.1 hw
 obtain⟨i,a,b⟩:=ih v i' hi
 exact⟨i,mem_foldr.2 ⟨v,hv,a⟩,b⟩
theorem ren0_from{i i':Nat} {f:Nat→AV} {k:Nat} (hf:∀ j,idsN (k+1) (f j) []=[j]) (hi:i'∈idsN (k+1) (ren0 r i f .un) []):∃ g g',r i g=some (i',g'):=by
 unfold ren0 at hi
 split at hi
 ·rename_i j g hr
  cases g with
  |zero=>
   have hi:i'∈idsN (k+1) (f j) []:=hi
   rw[hf]at hi;rw[List.mem_singleton.1 hi];exact⟨0,0,hr⟩
  |succ g=>cases hi
 ·cases hi
theorem renN_from:∀ (k:Nat) (v:AV),∀ i'∈idsN k (renN r k v) [],∃ i∈idsN k v [],∃ g g',r i g=some (i',g'):=by
 intro k
 induction k with
 |zero=>intro v i' hi;cases hi
 |succ k ih=>
  intro v i' hi
  cases v with
  |ptr i o=>exact⟨i,List.mem_singleton.2 rfl,ren0_from (fun j=>rfl) hi⟩
  |asl i o n sz=>exact⟨i,List.mem_singleton.2 rfl,ren0_from (f:=fun j=>.asl j o n sz) (fun j=>rfl) hi⟩
  |yield i=>exact⟨i,List.mem_singleton.2 rfl,ren0_from (fun j=>rfl) hi⟩
  |map i=>exact⟨i,List.mem_singleton.2 rfl,ren0_from (fun j=>rfl) hi⟩
  |sl i g sz o n=>
   have hi:i'∈idsN (k+1) (match r i g with|some (j,g)=>.sl j g sz o n|none=>.un) []:=hi
   cases hr:r i g with
   |none=>rw[hr]at hi;cases hi
   |some x=>
    obtain⟨j,g'⟩:=x
    rw[hr]at hi
    rw[List.mem_singleton.1 (show i' ∈ [j]from hi)]
    exact⟨i,List.mem_singleton.2 rfl,g,g',hr⟩
  |el i g sz kk o=>
   have hi:i'∈idsN (k+1) (match r i g with|some (j,g)=>.el j g sz kk o|none=>.un) []:=hi
   cases hr:r i g with
   |none=>rw[hr]at hi;cases hi
   |some x=>
    obtain⟨j,g'⟩:=x
    rw[hr]at hi
    rw[List.mem_singleton.1 (show i' ∈ [j]from hi)]
    exact⟨i,List.mem_singleton.2 rfl,g,g',hr⟩
  |func f a b=>
   have e:∀ (a b:List AV),idsN (k+1) (.func f a b) []=a.foldr (idsN k) []++b.foldr (idsN k) []:=fun a b=>by
    show a.foldr (idsN k) (b.foldr (idsN k) [])=_
    exact foldr_ids (idsN_app k) _ _
   have hi:i'∈idsN (k+1) (.func f (a.map (renN r k)) (b.map (renN r k))) []:=hi
   rw[e]at hi
   rw[e]
   rcases List.mem_append.1 hi with q|q
   ·obtain⟨i,x,y⟩:=foldr_ren_from ih a i' q
    exact⟨i,List.mem_append_left _ x,y⟩
   ·obtain⟨i,x,y⟩:=foldr_ren_from ih b i' q
    exact⟨i,List.mem_append_right _ x,y⟩
  |face t v=>exact ih v i' hi
  |agg l=>exact foldr_ren_from ih l i' hi
  |tup l=>exact foldr_ren_from ih l i' hi
  |_=>cases hi
theorem Tm.ren_from:∀ (t:Tm),∀ i'∈(t.ren r).ids [],∃ i∈t.ids [],∃ g g',r i g=some (i',g'):=by
 intro t
 induction t with
 |lf=>intro i' hi;cases hi
 |nd v a b iha ihb=>
  intro i' hi
  have e:∀ (v:AV) (a b:Tm),(Tm.nd v a b).ids []=idsN 6 v []++(a.ids []++b.ids []):=fun v a b=>by
   show idsN 6 v (a.ids (b.ids []))=_
   rw[idsN_app,Tm.ids_app a]
  have hi:i'∈(Tm.nd (Ai.ren r v) (a.ren r) (b.ren r)).ids []:=hi
  rw[e]at hi
  rw[e]
  rcases List.mem_append.1 hi with q|q
  ·obtain⟨i,x,y⟩:=renN_from 6 v i' q
   exact⟨i,List.mem_append_left _ x,y⟩
  ·rcases List.mem_append.1 q with q|q
   ·obtain⟨i,x,y⟩:=iha i' q
    exact⟨i,List.mem_append_right _ (List.mem_append_left _ x),y⟩
   ·obtain⟨i,x,y⟩:=ihb i' q
    exact⟨i,List.mem_append_right _ (List.mem_append_right _ x),y⟩
theorem foldr_ren_len{k:Nat} (ih:∀ v,(idsN k (renN r k v) []).length≤(idsN k v []).length):∀ (l:List AV),((l.map (renN r k)).foldr (idsN k) []).length≤(l.foldr (idsN k) []).length:=by
 intro l
 induction l with
 |nil=>exact Nat.le_refl _
 |cons v l ihl=>
  rw[List.map_cons,List.foldr_cons,List.foldr_cons,idsN_app,idsN_app k v,List.length_append,List.length_append]
  have:=ih v
  omega
theorem ren0_len{i:Nat} {f:Nat→AV} {k:Nat} (hf:∀ j,(idsN (k+1) (f j) []).length≤1):(idsN (k+1) (ren0 r i f .un) []).length≤1:=by
 unfold ren0
 split
 ·rename_i j g _
  cases g with
  |zero=>exact hf j
  |succ g=>exact Nat.zero_le _
 ·exact Nat.zero_le _
theorem renN_len:∀ (k:Nat) (v:AV),(idsN k (renN r k v) []).length≤(idsN k v []).length:=by
 intro k
 induction k with
 |zero=>intro v;exact Nat.le_refl _
 |succ k ih=>
  intro v
  cases v with
  |ptr i o=>exact ren0_len fun j=>Nat.le_refl 1
  |asl i o n sz=>exact ren0_len (f:=fun j=>.asl j o n sz) fun j=>Nat.le_refl 1
  |yield i=>exact ren0_len fun j=>Nat.le_refl 1
  |map i=>exact ren0_len fun j=>Nat.le_refl 1
  |sl i g sz o n=>
   show(idsN (k+1) (match r i g with|some (j,g)=>.sl j g sz o n|none=>.un) []).length≤1
   split
   ·exact Nat.le_refl 1
   ·exact Nat.zero_le _
  |el i g sz kk o=>
   show(idsN (k+1) (match r i g with|some (j,g)=>.el j g sz kk o|none=>.un) []).length≤1
   split
   ·exact Nat.le_refl 1
   ·exact Nat.zero_le _
  |func f a b=>
   have e:∀ (a b:List AV),idsN (k+1) (.func f a b) []=a.foldr (idsN k) []++b.foldr (idsN k) []:=fun a b=>by
    show a.foldr (idsN k) (b.foldr (idsN k) [])=_
    exact foldr_ids (idsN_app k) _ _
   show(idsN (k+1) (.func f (a.map (renN r k)) (b.map (renN r k))) []).length≤_
   rw[e,e,List.length_append,List.length_append]
   have h1:=foldr_ren_len ih a
   have h2:=foldr_ren_len ih b
   omega
  |face t v=>exact ih v
  |agg l=>exact foldr_ren_len ih l
  |tup l=>exact foldr_ren_len ih l
  |_=>exact Nat.le_refl _
theorem Tm.ren_len:∀ (t:Tm),((t.ren r).ids []).length≤(t.ids []).length:=by
 intro t
 induction t with
 |lf=>exact Nat.le_refl _
 |nd v a b iha ihb=>
  have e:∀ (v:AV) (a b:Tm),(Tm.nd v a b).ids []=idsN 6 v []++(a.ids []++b.ids []):=fun v a b=>by
   show idsN 6 v (a.ids (b.ids []))=_
   rw[idsN_app,Tm.ids_app a]
  show((Tm.nd (Ai.ren r v) (a.ren r) (b.ren r)).ids []).length≤_
  rw[e,e]
  simp only[List.length_append]
  have:=renN_len (r:=r) 6 v
  unfold Ai.ren
  omega
theorem mem_tm_get:∀ (t:Tm) (i:Nat),∀ j∈idsN 6 (t.get i) [],j∈t.ids []:=by
 intro t
 induction t with
 |lf=>intro i j hj;cases hj
 |nd v a b iha ihb=>
  intro i j hj
  have e:(Tm.nd v a b).ids []=idsN 6 v []++(a.ids []++b.ids []):=by
   show idsN 6 v (a.ids (b.ids []))=_
   rw[idsN_app,Tm.ids_app a]
  rw[e]
  cases i with
  |zero=>exact List.mem_append_left _ hj
  |succ m=>
   have hj:j∈idsN 6 (cond (Nat.beq (Nat.mod m 2) 0) (a.get (Nat.div m 2)) (b.get (Nat.div m 2))) []:=hj
   cases hb:Nat.beq (Nat.mod m 2) 0 with
   |true=>rw[hb]at hj;exact List.mem_append_right _ (List.mem_append_left _ (iha _ j hj))
   |false=>rw[hb]at hj;exact List.mem_append_right _ (List.mem_append_right _ (ihb _ j hj))
theorem IsO.tr(T:Tr r h h' ρ ρ') {ob:Ob} {d:DO} (H:IsO h ρ ob d) (hc:Cov r h (obIds ob [])) (hg:∀ i∈ρ,obGen (hget h i)=0) (g:Nat):IsO h' ρ' (renOb r g ob) d:=by
 cases H with
 | @cells e cs l H=>
  have hc:Cov r h (idsL cs []):=hc
  rw[idsL_foldr]at hc
  exact .cells (is2_tr T H 3 hc)
 |map es=>exact .map es
 |defd b=>exact .defd b
 | @loop st p fn n t ps a b df j sl hd hs hi hb=>
  obtain⟨j',h1,h2⟩:=T.map df j hd
  have:renOb r g (.loop (.mk st p fn n t ps a b j))=.loop (.mk st p fn n (t.ren r) ps a b j'):=ren0_some h2
  rw[this]
  have hc:Cov r h (j::t.ids []):=hc
  refine .loop h1 (fun i s his=>?_) (fun i' hi'=>?_) ?_
  ·rw[Tm.get_ren]
   exact(hs i s his).tr T 3 (fun x hx=>hc x (List.mem_cons_of_mem _ (mem_tm_get t i x hx)))
  ·obtain⟨i,k1,g1,g2,k2⟩:=Tm.ren_from t i' hi'
   obtain⟨k3,k4,_⟩:=T.emb _ _ _ _ k2
   rcases hi i k1 with q|q
   ·left
    obtain⟨n,hn⟩:=List.getElem?_of_mem q
    obtain⟨j2,k5,k6⟩:=T.map n i hn
    have hg1:g1=0:=k3.trans (hg i q)
    subst hg1
    rw[k6]at k2
    injection k2 with k2
    injection k2 with k2 _
    rw[← k2]
    exact List.mem_of_getElem? k5
   ·right
    rw[k4];exact flat_ren q _ _
  ·exact Nat.le_trans (Tm.ren_len t) hb
theorem Den.tr(T:Tr r h h' ρ ρ') {D:List DO} (H:Den h ρ D) (hl:ρ'.length=ρ.length) (hn:ρ'.Nodup) (hc:∀ i∈ρ,Cov r h (obIds (hget h i) [])):Den h' ρ' D:=by
 refine⟨hl.trans H.len,hn,fun n d j hd hj=>?_⟩
 have hnl:n<ρ.length:=by rw[← hl];exact(List.getElem?_eq_some_iff.1 hj).1
 have hi:ρ[n]?=some ρ[n]:=List.getElem?_eq_getElem hnl
 obtain⟨j2,h1,h2⟩:=T.map n _ hi
 rw[hj]at h1
 obtain rfl:=Option.some.inj h1
 obtain⟨_,h3,_⟩:=T.emb _ _ _ _ h2
 rw[h3]
 exact(H.at' n d _ hd hi).tr T (hc _ (List.mem_of_getElem? hi)) (fun i hi=>(H.lt i hi).2.2) 0
theorem IsC.tr(T:Tr r h h' ρ ρ') {cl:Callee'} {s:SCl} (H:IsC h ρ cl s) (hc:Cov r h cl.roots):∃ cl0,renCallee r cl=some cl0∧IsC h' ρ' cl0 s:=by
 cases H with
 | @fn f as l H=>
  have hc:Cov r h (idsL as []):=hc
  rw[idsL_foldr]at hc
  exact⟨_,rfl,.fn (is2_tr T H 3 hc)⟩
 | @yield n i as l hn H=>
  have hc:Cov r h ([i]++idsL as []):=hc
  have hc2:=hc.right
  rw[idsL_foldr]at hc2
  obtain⟨j,h1,h2⟩:=T.map n i hn
  exact⟨.yield j (renl r as),ren0_some h2,.yield h1 (is2_tr T H 3 hc2)⟩
theorem IsE.tr(T:Tr r h h' ρ ρ') {e:AEnd} {s:SE} (H:IsE h ρ e s) (hc:Cov r h (idsEnd e [])):IsE h' ρ' (renEnd r e) s:=by
 cases H with
 |ret H=>exact .ret (H.tr T 3 hc)
 |rets H=>exact .rets (is2_tr T H 2 hc)
 |pan H=>exact .pan (H.tr T 3 hc)
end
section
variable {h:List Ob} {ρ:List Nat}
theorem idsEnd_app(e:AEnd) (s:List Nat):idsEnd e s=idsEnd e []++s:=by
  cases e with
  |ret v=>exact idsN_app 6 v s
  |pan v=>exact idsN_app 6 v s
theorem obIds_app(o:Ob) (s:List Nat):obIds o s=obIds o []++s:=by
  cases o with
  |cells e cs=>exact idsL_app cs s
  |loop l=>
    obtain⟨st,p,fn,n,t,ps,a,b,df⟩:=l
    show df::t.ids s=df::t.ids []++s
    rw[Tm.ids_app];rfl
  |iter m k b=>cases m<;>rfl
  |_=>rfl
theorem mem_flatIds{i:Nat}:∀ {l:List Ob},i∈flatIds l []↔∃ o∈l,i∈obIds o []:=by
  intro l
  induction l with
  | nil => constructor
           · intro q;cases q
           · rintro⟨v,q,_⟩;cases q
  |cons o l ih=>
    have:flatIds (o::l) []=obIds o []++flatIds l []:=obIds_app o (flatIds l [])
    rw[this,List.mem_append,ih];simp
theorem posD_of{ks:List Nat} (hn:ks.Nodup) {i j:Nat} (hj:ks[j]?=some i):posD ks i=j:=by
  unfold posD;rw[posOf_of hn hj];rfl
theorem posD_at{ks:List Nat} {i:Nat} (hi:i∈ks):ks[posD ks i]?=some i:=by
  unfold posD
  cases hp:posOf i ks 0 with
  |none=>exact absurd hi (posOf_none hp)
  |some j=>exact posOf_at hp
theorem inR_0{ks:List Nat} {i:Nat} (hi:i∈ks) (hg:obGen (hget h i)=0):inR h ks i 0=some (posD ks i,0):=by
  unfold inR posD
  cases hp:posOf i ks 0 with
  |none=>exact absurd hi (posOf_none hp)
  |some j=>rw[hg];rfl
theorem backOk_of:∀ (ks:List Nat) (os:List Ob),(∀ (n k:Nat) (o:Ob),ks[n]?=some k→os[n]?=some o→hasGen o=true∨obGen (hget h k)=0)→backOk h ks os=true:=by
  intro ks
  induction ks with
  |nil=>intro os _;cases os<;>rfl
  |cons k ks ih=>
    intro os ho
    cases os with
    |nil=>rfl
    |cons x os=>
      show cond (hasGen x) (backOk h ks os) (cond (Nat.beq (obGen (hget h k)) 0) (backOk h ks os) false)=true
      have h2:=ih os fun n k' o h1 h2=>ho (n+1) k' o (by simpa using h1) (by simpa using h2)
      rw[h2]
      rcases ho 0 k x rfl rfl with q|q
      · rw[q];rfl
      · rw[q];cases hasGen x<;>rfl
def Told(h0:List Ob) (ρ0:List Nat) (D':List DO) (q:SE) (e:AEnd) (h1:List Ob):Prop:=
  h0.length≤h1.length∧(∀ j,j<h0.length→flat (hget h0 j)=true→flat (hget h1 j)=true) ∧
  ∃ σ:List Nat,(∀ j∈σ,h0.length≤j)∧Den h1 (ρ0++σ) D'∧IsE h1 (ρ0++σ) e q ∧
    ∀ s:List Nat,(∀ i∈idsEnd e [],i∈s)→(∀ i∈ρ0,i∈s)→Cl h1 s→∀ j∈σ,j∈s
def Left(cl:Callee') (h:List Ob) (ρ:List Nat) (D':List DO) (q:SE) (e:AEnd) (h1:List Ob):Prop:=
  h.length≤h1.length∧(∀ j,j<h.length→flat (hget h j)=true→flat (hget h1 j)=true) ∧
  (∀ j,j<h.length→j ∉ ρ→j ∉ cl.roots→(∀ i∈ρ,j ∉ obIds (hget h i) [])→hget h1 j=hget h j) ∧
  ∃ σ:List Nat,(∀ j∈σ,h.length≤j)∧Den h1 (ρ++σ) D'∧IsE h1 (ρ++σ) e q
end
def CSM(c:Ctx) (o:Orc) (m m':RM) (cl:Callee') (h:List Ob) (e:AEnd) (h1:List Ob):Prop:=
 ∃ k0,∀ k,k0≤k→∀ F:CR→Option CR,inner (callN c o k) cl h (some m) F none=F (.mk e h1 (some m'))
section
variable {h:List Ob} {ρ:List Nat}
theorem pureM_roots{m:RM} (hm:pureM m=true) (s:List Nat):idsRM (some m) s=s:=by
 cases m with
 |ret=>rfl
 |pan v b=>cases v<;>first|rfl|cases hm
theorem inner_fwdM{c:Ctx} {o:Orc} {cl cl0:Callee'} {h:List Ob} {ks ns:List Nat} {e:AEnd} {h':List Ob}
  {m m':RM} (hm:pureM m=true) (hm':pureM m'=true) (hks:∀ {R:Type} (F:List Nat→R),(addNew cl.roots [] fun s=>reach h 10000 0 s fun s=>lnf (ltN h.length s) F)=F ks)
  (has:renCallee (inR h ks) cl=some cl0)
  (run:∃ k0,∀ k,k0≤k→callN c o k cl0 (pick (inR h ks) h hget ks) (some m)=some (.mk e h' (some m')))
  (hback:backOk h ks (h'.take ks.length)=true)
  (hns:∀ {R:Type} (F:List Nat→R),(addNew (idsEnd e (flatIds (h'.take ks.length) [])) [] fun s=>reach h' 10000 0 s fun s=>lnf (geN ks.length s) F)=F ns) :
  CSM c o m m' cl h (renEnd (outR h ks h' ns) e) (putBack (outR h ks h' ns) h h ks (h'.take ks.length)++pick (outR h ks h' ns) h' hget ns):=by
 obtain⟨k0,h0⟩:=run
 refine⟨k0,fun k hk F=>?_⟩
 unfold inner
 rw[pureM_roots hm]
 show(addNew cl.roots [] fun s=>reach h 10000 0 s fun s=>lnf (ltN h.length s) fun ks=>innerGo (callN c o k) h ks cl (some m) F none)=_
 rw[hks]
 unfold innerGo
 rw[renCalleeK_eq,has]
 simp only
 rw[pickK_eq,renRMK_eq,pureM_ren hm]
 show(match callN c o k cl0 (pick (inR h ks) h hget ks) (some m)with
  |none=>none
  |some x=>innerBack h ks x F none)=_
 rw[h0 k hk]
 simp only
 unfold innerBack
 simp only[lnf_eq]
 rw[hback]
 simp only[cond]
 rw[pureM_ids hm']
 have:=hns (R:=Option CR) fun ns=>renEndK (outR h ks h' ns) e fun e=>renRMK (outR h ks h' ns) (some m') fun r'=>
  putBackK (outR h ks h' ns) h h ks (h'.take ks.length) fun h1=>pickK (outR h ks h' ns) h' ns fun h2=>F (.mk e (h1++h2) r')
 simp only[lnf_eq]at this
 refine Eq.trans this ?_
 rw[renEndK_eq,renRMK_eq,pureM_ren hm',putBackK_eq,pickK_eq]
theorem coreM{c:Ctx} {o:Orc} {cl:Callee'} {L:List Nat} {m m':RM} (hm:pureM m=true) (hm':pureM m'=true) (hl:∀ i∈cl.roots,i∈L) (hc:Cl h L) (hn:L.length≤9999) (hlt:∀ i∈L,i<h.length) :
  ∃ ks:List Nat,ks.Nodup∧(∀ i∈ks,i∈L)∧(∀ i∈cl.roots,i∈ks)∧Cl h ks ∧
   ∀ cl0 e h1 L1,renCallee (inR h ks) cl=some cl0→(∃ k0,∀ k,k0≤k→callN c o k cl0 (pick (inR h ks) h hget ks) (some m)=some (.mk e h1 (some m'))) →
    backOk h ks (h1.take ks.length)=true→(∀ i∈idsEnd e (flatIds (h1.take ks.length) []),i∈L1)→Cl h1 L1→L1.length≤9999 →
    ∃ s1:List Nat,s1.Nodup∧(∀ i∈idsEnd e (flatIds (h1.take ks.length) []),i∈s1)∧(∀ i∈s1,i∈L1)∧Cl h1 s1 ∧
     CSM c o m m' cl h (renEnd (outR h ks h1 (geN ks.length s1)) e) (putBack (outR h ks h1 (geN ks.length s1)) h h ks (h1.take ks.length)++pick (outR h ks h1 (geN ks.length s1)) h1 hget (geN ks.length s1)):=by
 obtain⟨ks,k1,k2,k3,k4,k5⟩:=reach_all hl hc hn
 refine⟨ks,k1,k4,k3,k5,fun cl0 e h1 L1 hcl run hb hl1 hc1 hn1=>?_⟩
 obtain⟨s1,g1,g2,g3,g4,g5⟩:=reach_all hl1 hc1 hn1
 refine⟨s1,g1,g3,g4,g5,inner_fwdM hm hm' (fun F=>?_) hcl run hb (fun F=>?_)⟩
 ·rw[k2]
  simp only[lnf_eq]
  rw[ltN_all fun i hi=>hlt i (k4 i hi)]
 ·rw[g2]
  simp only[lnf_eq]
theorem cs_denM{c:Ctx} {o:Orc} {cl:Callee'} {s:SCl} {D D':List DO} {q:SE} {m m':RM} (hm:pureM m=true) (hm':pureM m'=true) (hD:Den h ρ D) (hcl:IsC h ρ cl s)
  (hreach:∀ t:List Nat,(∀ i∈cl.roots,i∈t)→Cl h t→∀ j∈ρ,j∈t)
  (hb:s.wt+(D.length+wtD D)≤9999) (hb1:q.wt+(D'.length+wtD D')≤9999)
  (hc:∀ h0 ρ0 cl0,Den h0 ρ0 D→IsC h0 ρ0 cl0 s→(∀ j,j<h0.length→j∈ρ0∨flat (hget h0 j)=true)→CtR c o cl0 h0 m (fun e h1 r=>Told h0 ρ0 D' q e h1∧r=some m')) :
  ∃ e h1,CSM c o m m' cl h e h1∧Left cl h ρ D' q e h1:=by
 have hA:=hcl.ids.1
 have hB:∀ i∈ρ,∀ j∈obIds (hget h i) [],j∈ρ∨flat (hget h j)=true:=fun i hi=>by
  obtain⟨n,hn⟩:=List.getElem?_of_mem hi
  have hnl:n<D.length:=by rw[← hD.len];exact(List.getElem?_eq_some_iff.1 hn).1
  exact(hD.at' n _ i (List.getElem?_eq_getElem hnl) hn).ids.1
 have hL:∀ i∈cl.roots++(ρ++ρ.flatMap fun i=>obIds (hget h i) []),i∈ρ∨flat (hget h i)=true:=fun i hi=>by
  rcases List.mem_append.1 hi with q|q
  ·exact hA i q
  ·rcases List.mem_append.1 q with q|q
   ·exact .inl q
   ·obtain⟨k,hk,hik⟩:=List.mem_flatMap.1 q
    exact hB k hk i hik
 have hLlt:∀ i∈cl.roots++(ρ++ρ.flatMap fun i=>obIds (hget h i) []),i<h.length:=fun i hi=>by
  rcases hL i hi with q|q
  ·exact(hD.lt i q).1
  ·exact hget_flat_lt q
 obtain⟨ks,hkn,hkL,hkr,hkc,hgo⟩:=coreM (c:=c) (o:=o) (cl:=cl) (h:=h) hm hm' (fun i hi=>List.mem_append_left _ hi) (den_cl hD hA) (by
  have h1:=hcl.ids.2
  have h2:=den_len hD
  have h3:=hD.len
  simp only[List.length_append]
  omega) hLlt
 have hρk:∀ j∈ρ,j∈ks:=hreach ks hkr hkc
 have hklt:∀ i∈ks,i<h.length:=fun i hi=>hLlt i (hkL i hi)
 have hkf:∀ i∈ks,i∈ρ∨flat (hget h i)=true:=fun i hi=>hL i (hkL i hi)
 have hsl:(pick (inR h ks) h hget ks).length=ks.length:=pick_length _ _ _
 have T:Tr (inR h ks) h (pick (inR h ks) h hget ks) ρ (ρ.map (posD ks)):=by
  refine⟨inR_emb,fun n i hn=>⟨posD ks i,by rw[List.getElem?_map,hn];rfl,?_⟩⟩
  have hi:=List.mem_of_getElem? hn
  exact inR_0 (hρk i hi) (hD.lt i hi).2.2
 have hn0:(ρ.map (posD ks)).Nodup:=nodup_map hD.nd hρk
 have hcov:∀ l:List Nat,(∀ i∈l,i∈ks)→Cov (inR h ks) h l:=fun l hl=>inR_cov hl
 have hD0:Den (pick (inR h ks) h hget ks) (ρ.map (posD ks)) D:=hD.tr T (by simp) hn0 (fun i hi=>hcov _ (hkc i (hρk i hi)))
 obtain⟨cl0,hcl0,hC0⟩:=hcl.tr T (hcov _ hkr)
 have h0f:∀ j,j<(pick (inR h ks) h hget ks).length→j∈ρ.map (posD ks)∨flat (hget (pick (inR h ks) h hget ks) j)=true:=fun j hj=>by
  rw[hsl]at hj
  have hk:ks[j]?=some ks[j]:=List.getElem?_eq_getElem hj
  rcases hkf ks[j] (List.getElem_mem hj)with q|q
  ·left
   exact List.mem_map.2 ⟨_,q,posD_of hkn hk⟩
  ·right
   rw[pick_get,hk];exact flat_ren q _ _
 obtain⟨e,h1,r1,hrun,⟨hlen,hfl,σ,hσ,hD1,hE1,hσr⟩,rfl⟩:=hc _ _ _ hD0 hC0 h0f
 rw[hsl]at hlen hfl hσ
 have hold:∀ j,j<ks.length→(h1.take ks.length)[j]?=some (hget h1 j):=fun j hj=>by
  rw[List.getElem?_take,if_pos hj,hget_eq,List.getElem?_eq_getElem (by omega)];rfl
 have hff:∀ n k,ks[n]?=some k→flat (hget h k)=true→flat (hget h1 n)=true:=fun n k hn hf=>by
  refine hfl n (List.getElem?_eq_some_iff.1 hn).1 ?_
  rw[pick_get,hn];exact flat_ren hf _ _
 have hback:backOk h ks (h1.take ks.length)=true:=by
  refine backOk_of _ _ fun n k ob h2 h3=>?_
  have hnl:n<ks.length:=(List.getElem?_eq_some_iff.1 h2).1
  rw[hold n hnl]at h3
  cases h3
  rcases hkf k (List.mem_of_getElem? h2)with q|q
  ·exact .inr (hD.lt k q).2.2
  ·exact .inl (flat_gen (hff n k h2 q))
 have hEi:=hE1.ids.1
 have hOi:∀ i∈idsEnd e (flatIds (h1.take ks.length) []),i∈idsEnd e []++((ρ.map (posD ks)++σ)++(ρ.map (posD ks)++σ).flatMap fun i=>obIds (hget h1 i) []):=fun i hi=>by
  rw[idsEnd_app]at hi
  rcases List.mem_append.1 hi with q|q
  ·exact List.mem_append_left _ q
  ·obtain⟨ob,hob,hio⟩:=mem_flatIds.1 q
   obtain⟨n,hn⟩:=List.getElem?_of_mem hob
   have hnl:n<ks.length:=by
    have:=(List.getElem?_eq_some_iff.1 hn).1
    rw[List.length_take]at this;omega
   rw[hold n hnl]at hn
   cases hn
   have hk:ks[n]?=some ks[n]:=List.getElem?_eq_getElem hnl
   rcases hkf ks[n] (List.getElem_mem hnl)with q|q
   ·refine List.mem_append_right _ (List.mem_append_right _ (List.mem_flatMap.2 ⟨n,List.mem_append_left _ (List.mem_map.2 ⟨_,q,posD_of hkn hk⟩),hio⟩))
   ·rw[flat_ids (hff n _ hk q)]at hio;cases hio
 obtain⟨s1,hs1n,hs1e,hs1L,hs1c,hcs⟩:=hgo cl0 e h1 _ hcl0 hrun hback hOi (den_cl hD1 hEi) (by
  have a1:=hE1.ids.2
  have a2:=den_len hD1
  have a3:=hD1.len
  simp only[List.length_append]at a3 ⊢
  omega)
 have hρ0l:∀ p∈ρ.map (posD ks),p<ks.length:=fun p hp=>by
  obtain⟨i,hi,rfl⟩:=List.mem_map.1 hp
  exact(List.getElem?_eq_some_iff.1 (posD_at (hρk i hi))).1
 have hs1i:∀ i∈idsEnd e [],i∈s1:=fun i hi=>hs1e i (by rw[idsEnd_app];exact List.mem_append_left _ hi)
 have hs1o:∀ p∈ρ.map (posD ks),∀ i∈obIds (hget h1 p) [],i∈s1:=fun p hp i hi=>hs1e i (by
  rw[idsEnd_app]
  exact List.mem_append_right _ (mem_flatIds.2 ⟨_,List.mem_of_getElem? (hold p (hρ0l p hp)),hi⟩))
 -- new names are reached
 have hσs:∀ j∈σ,j∈s1:=by
  have hcl2:Cl h1 (ρ.map (posD ks)++s1):=fun i hi j hj=>by
   rcases List.mem_append.1 hi with q|q
   ·exact List.mem_append_right _ (hs1o i q j hj)
   ·exact List.mem_append_right _ (hs1c i q j hj)
  intro j hj
  have:=hσr (ρ.map (posD ks)++s1) (fun i hi=>List.mem_append_right _ (hs1i i hi)) (fun i hi=>List.mem_append_left _ hi) hcl2 j hj
  rcases List.mem_append.1 this with q|q
  ·have:=hρ0l j q
   have:=hσ j hj
   omega
  ·exact q
 have hσg:∀ j∈σ,j∈geN ks.length s1:=fun j hj=>geN_mem.2 ⟨hσs j hj,hσ j hj⟩
 have hemb:=outR_emb (h:=h) (h':=h1) (ks:=ks) (ns:=geN ks.length s1) hkn hklt hlen hback
 have hcov1:∀ l:List Nat,(∀ i∈l,i<ks.length∨i∈s1)→Cov (outR h ks h1 (geN ks.length s1)) h1 l:=fun l hl=>outR_cov fun i hi=>by
  by_cases q:i<ks.length
  ·exact .inl q
  ·rcases hl i hi with q'|q'
   ·exact .inl q'
   ·exact .inr (geN_mem.2 ⟨q',by omega⟩)
 have hnσ:σ.Nodup:=(List.nodup_append.1 hD1.nd).2.1
 have T1:Tr (outR h ks h1 (geN ks.length s1)) h1 (putBack (outR h ks h1 (geN ks.length s1)) h h ks (h1.take ks.length)++pick (outR h ks h1 (geN ks.length s1)) h1 hget (geN ks.length s1)) (ρ.map (posD ks)++σ) (ρ++σ.map fun j=>h.length+posD (geN ks.length s1) j):=by
  refine⟨hemb,fun n p hn=>?_⟩
  have hp:p∈ρ.map (posD ks)++σ:=List.mem_of_getElem? hn
  have hg:=(hD1.lt p hp).2.2
  by_cases hnl:n<ρ.length
  ·rw[List.getElem?_append_left (by simpa using hnl),List.getElem?_map]at hn
   cases hr:ρ[n]? with
   |none=>rw[hr]at hn;cases hn
   |some i=>
    rw[hr]at hn
    have hn:posD ks i=p:=Option.some.inj hn
    subst hn
    have hi:=List.mem_of_getElem? hr
    refine⟨i,by rw[List.getElem?_append_left hnl];exact hr,?_⟩
    unfold outR
    rw[hg]
    simp only[Nat.beq_refl,cond]
    rw[nget_eq,posD_at (hρk i hi)]
    simp only[forceN_eq,(hD.lt i hi).2.2]
    rfl
  ·rw[List.getElem?_append_right (by simpa using Nat.le_of_not_lt hnl),List.length_map]at hn
   have hjσ:=List.mem_of_getElem? hn
   refine⟨h.length+posD (geN ks.length s1) p,?_,?_⟩
   ·rw[List.getElem?_append_right (Nat.le_of_not_lt hnl),List.getElem?_map,hn];rfl
   ·unfold outR
    rw[hg]
    simp only[Nat.beq_refl,cond]
    rw[nget_eq,List.getElem?_eq_none (hσ p hjσ)]
    simp only
    unfold posD
    cases hp:posOf p (geN ks.length s1) 0 with
    |none=>exact absurd (hσg p hjσ) (posOf_none hp)
    |some m=>simp only[forceN_eq];rfl
 have hlenF:h.length≤(putBack (outR h ks h1 (geN ks.length s1)) h h ks (h1.take ks.length)++pick (outR h ks h1 (geN ks.length s1)) h1 hget (geN ks.length s1)).length:=by
  rw[List.length_append,putBack_length];omega
 refine⟨_,_,hcs,hlenF,fun j hj hf=>?_,fun j hj h2 h3 h4=>?_,σ.map fun j=>h.length+posD (geN ks.length s1) j,fun j hj=>?_,?_,?_⟩
 ·rw[hget_appL _ _ (by rw[putBack_length];exact hj)]
  by_cases q:j∈ks
  ·obtain⟨n,hn⟩:=List.getElem?_of_mem q
   have hnl:n<ks.length:=(List.getElem?_eq_some_iff.1 hn).1
   rw[putBack_at _ _ _ _ _ n hkn hn (hold n hnl) hj]
   exact flat_ren (hff n j hn hf) _ _
  ·rw[putBack_other _ _ _ _ _ q];exact hf
 ·rw[hget_appL _ _ (by rw[putBack_length];exact hj),putBack_other]
  intro q
  rcases List.mem_append.1 (hkL j q)with q|q
  ·exact h3 q
  ·rcases List.mem_append.1 q with q|q
   ·exact h2 q
   ·obtain⟨k,hk,hik⟩:=List.mem_flatMap.1 q
    exact h4 k hk hik
 ·obtain⟨i,_,rfl⟩:=List.mem_map.1 hj
  omega
 ·refine hD1.tr T1 (by simp) ?_ (fun i hi=>hcov1 _ fun j hj=>?_)
  ·rw[List.nodup_append]
   refine⟨hD.nd,?_,?_⟩
   ·have key:∀ (l:List Nat),l.Nodup→(∀ j∈l,j∈geN ks.length s1)→(l.map fun j=>h.length+posD (geN ks.length s1) j).Nodup:=by
     intro l
     induction l with
     |nil=>intro _ _;exact List.nodup_nil
     |cons a l ih=>
      intro hn hl
      rw[List.nodup_cons]at hn
      rw[List.map_cons,List.nodup_cons]
      refine⟨fun q=>?_,ih hn.2 fun j hj=>hl j (List.mem_cons_of_mem _ hj)⟩
      obtain⟨b,hb,he⟩:=List.mem_map.1 q
      have:=posD_inj (hl b (List.mem_cons_of_mem _ hb)) (hl a List.mem_cons_self) (by omega)
      subst this
      exact hn.1 hb
    exact key σ hnσ hσg
   ·intro a ha b hb hab
    obtain⟨i,_,rfl⟩:=List.mem_map.1 hb
    have:=(hD.lt a ha).1
    omega
  ·rcases List.mem_append.1 hi with q|q
   ·exact .inr (hs1o i q j hj)
   ·exact .inr (hs1c i (hσs i q) j hj)
 ·exact hE1.tr T1 (hcov1 _ fun i hi=>.inr (hs1i i hi))
end
end Go.Ai

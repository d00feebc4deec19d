/- What is proved: the plain law of Parse and Bytes (what is written is read, and what is read is written); contracts of valid, Is, Bytes, Same, of the program and of the specification. Conditions: items have digests of 16 bytes; lists and keys are short. -/
import Derived.Test.YtepjcfcfpjhpgaaGreatDoorPC06
import Derived.Test.YtepjcfcfpjhpgaaGreatDoorPC07
import Derived.Test.YtepjcfcfpjhpgaaGreatDoorPA11
import Derived.Test.YtepjcfcfpjhpgaaGreatDoorPC03
set_option linter.all false
namespace Go.Proofs
structure Itm where
 key:List UInt8
 tree:Bool
 count:Int
 sum:List UInt8
def nm:List UInt8→Nat→Nat
 | [],n=>n
 |c::l,n=>nm l (n*256+c.toNat)
def be(n:Nat):Nat→List UInt8
 |0=>[]
 |w+1=>be (n / 256) w++[UInt8.ofNat n]
theorem be_length:∀ (w n:Nat),(be n w).length=w:=by
 intro w
 induction w with
 |zero=>intro n;rfl
 |succ w ih=>intro n;simp [be,ih]
theorem nm_app:∀ (l m:List UInt8) (n:Nat),nm (l++m) n=nm m (nm l n):=by
 intro l
 induction l with
 |nil=>intro m n;rfl
 |cons c l ih=>intro m n;exact ih m _
theorem nm_be:∀ (w n:Nat),nm (be n w) 0=n % 256 ^ w:=by
 intro w
 induction w with
 |zero=>intro n;simp [be,nm,Nat.mod_one]
 |succ w ih=>
  intro n
  show nm (be (n / 256) w++[UInt8.ofNat n]) 0=_
  rw[nm_app,ih]
  show(n / 256 % 256 ^ w)*256+(UInt8.ofNat n).toNat=_
  rw[Nat.pow_succ,Nat.mul_comm (256 ^ w) 256,Nat.mod_mul,UInt8.toNat_ofNat']
  omega
theorem be_nm:∀ (l:List UInt8) (n w:Nat),be (nm l n) (w+l.length)=be n w++l:=by
 intro l
 induction l with
 |nil=>intro n w;simp [nm]
 |cons c l ih=>
  intro n w
  show be (nm l (n*256+c.toNat)) (w+(l.length+1))=_
  rw[show w+(l.length+1)=(w+1)+l.length by omega,ih]
  show(be ((n*256+c.toNat) / 256) w++[UInt8.ofNat (n*256+c.toNat)])++l=_
  have hc:c.toNat<256:=c.toNat_lt
  rw[show(n*256+c.toNat) / 256=n by omega]
  have:UInt8.ofNat (n*256+c.toNat)=c:=by
   apply UInt8.toNat_inj.1
   rw[UInt8.toNat_ofNat']
   omega
  rw[this]
  simp
theorem be_nm0(l:List UInt8):be (nm l 0) l.length=l:=by
 have:=be_nm l 0 0
 rwa[Nat.zero_add]at this
theorem nm_lt:∀ (l:List UInt8) (n:Nat),nm l n<(n+1)*256 ^ l.length:=by
 intro l
 induction l with
 |nil=>intro n;simp [nm]
 |cons c l ih=>
  intro n
  have h:=ih (n*256+c.toNat)
  have hc:c.toNat<256:=c.toNat_lt
  show nm l (n*256+c.toNat)<(n+1)*256 ^ (l.length+1)
  rw[Nat.pow_succ,Nat.mul_comm (256 ^ l.length) 256,← Nat.mul_assoc]
  refine Nat.lt_of_lt_of_le h (Nat.mul_le_mul_right _ ?_)
  omega
def tk(n:Nat) (s:List UInt8):Option (List UInt8×List UInt8):=if n≤s.length then some (s.take n,s.drop n)else none
theorem tk_app{n:Nat} {a:List UInt8} (r:List UInt8) (h:a.length=n):tk n (a++r)=some (a,r):=by
 subst h
 unfold tk
 rw[if_pos (by simp)]
 simp
theorem tk_inv{n:Nat} {s a r:List UInt8} (h:tk n s=some (a,r)):s=a++r∧a.length=n:=by
 unfold tk at h
 split at h
 ·rename_i hn
  simp only[Option.some.injEq,Prod.mk.injEq]at h
  obtain⟨rfl,rfl⟩:=h
  exact⟨(List.take_append_drop n s).symm,by simp;omega⟩
 ·cases h
def pF(lvl:Int) (s:List UInt8):Option (Bool×List UInt8):=
 if lvl=0 then(match tk 1 s with
  |some (f,s)=>if nm f 0≤1 then some (decide (nm f 0=1),s)else none
  |none=>none)else some (false,s)
def pN(lvl:Int) (t:Bool) (s:List UInt8):Option (Nat×List UInt8):=
 if lvl > 0∨t=true then(match tk 4 s with|some (c,s)=>some (nm c 0,s)|none=>none)else some (0,s)
def pI(lvl:Int) (s:List UInt8):Option (Itm×List UInt8):=
 match tk 1 s with
 |none=>none
 |some (a,s)=>(match tk (nm a 0) s with
  |none=>none
  |some (k,s)=>(match pF lvl s with
   |none=>none
   |some (t,s)=>(match pN lvl t s with
    |none=>none
    |some (c,s)=>(match tk 16 s with
     |none=>none
     |some (m,s)=>some (⟨k,t,c,m⟩,s)))))
def pL(lvl:Int):Nat→List UInt8→Option (List Itm×List UInt8)
 |0,s=>some ([],s)
 |n+1,s=>(match pI lvl s with
  |none=>none
  |some (x,s)=>(match pL lvl n s with
   |none=>none
   |some (xs,s)=>some (x::xs,s)))
def itB(lvl:Int) (x:Itm):List UInt8:=
 be x.key.length 1++(x.key++((if lvl=0 then [if x.tree=true then 1 else 0]else [])++((if lvl > 0∨x.tree=true then be x.count.toNat 4 else [])++x.sum)))
def itsB(lvl:Int):List Itm→List UInt8
 | []=>[]
 |x::l=>itB lvl x++itsB lvl l
def cB(lvl:Int) (xs:List Itm):List UInt8:=be lvl.toNat 1++(be xs.length 2++itsB lvl xs)
structure IOk (lvl:Int) (x:Itm):Prop where
 key:x.key.length<256
 sum:x.sum.length=16
 tr:x.tree=true→lvl=0
 c0:0≤x.count
 c1:x.count<4294967296
 no:¬(lvl > 0∨x.tree=true)→x.count=0
theorem be1(k:List UInt8) (h:k.length=1):be (nm k 0) 1=k:=by
 have:=be_nm0 k
 rwa[h]at this
theorem nm1{n:Nat} (h:n<256):nm (be n 1) 0=n:=by rw[nm_be];omega
theorem pF_app{lvl:Int} {x:Itm} (O:IOk lvl x) (r:List UInt8):pF lvl ((if lvl=0 then [if x.tree=true then 1 else 0]else [])++r)=some (x.tree,r):=by
 unfold pF
 by_cases hl:lvl=0
 ·rw[if_pos hl,if_pos hl,tk_app (n:=1) (a:=[if x.tree=true then 1 else 0]) r rfl]
  cases ht:x.tree
  ·rfl
  ·rfl
 ·rw[if_neg hl,if_neg hl]
  cases ht:x.tree
  ·rfl
  ·exact absurd (O.tr ht) hl
theorem pN_app{lvl:Int} {x:Itm} (O:IOk lvl x) (r:List UInt8):pN lvl x.tree ((if lvl > 0∨x.tree=true then be x.count.toNat 4 else [])++r)=some (x.count.toNat,r):=by
 unfold pN
 by_cases hl:lvl > 0∨x.tree=true
 ·rw[if_pos hl,if_pos hl,tk_app r (be_length 4 _)]
  have h0:=O.c0
  have h1:=O.c1
  simp only[nm_be]
  rw[Nat.mod_eq_of_lt (by omega)]
 ·rw[if_neg hl,if_neg hl,O.no hl]
  rfl
theorem pI_app{lvl:Int} {x:Itm} (O:IOk lvl x) (r:List UInt8):pI lvl (itB lvl x++r)=some (x,r):=by
 unfold pI itB
 simp only[List.append_assoc]
 rw[tk_app _ (be_length 1 _)]
 simp only
 rw[nm1 O.key,tk_app _ rfl]
 simp only
 rw[pF_app O]
 simp only
 rw[pN_app O]
 simp only
 rw[tk_app _ O.sum]
 have h0:=O.c0
 simp only[Int.toNat_of_nonneg h0]
theorem pL_app{lvl:Int}:∀ (xs:List Itm) (r:List UInt8),(∀ x∈xs,IOk lvl x)→pL lvl xs.length (itsB lvl xs++r)=some (xs,r):=by
 intro xs
 induction xs with
 |nil=>intro r _;rfl
 |cons x xs ih=>
  intro r O
  show(match pI lvl ((itB lvl x++itsB lvl xs)++r)with|none=>none|some (x,s)=>_)=_
  rw[List.append_assoc,pI_app (O x (List.mem_cons_self ..))]
  simp only
  rw[ih r fun y hy=>O y (List.mem_cons_of_mem _ hy)]
theorem pF_inv{lvl:Int} {s r:List UInt8} {t:Bool} (h:pF lvl s=some (t,r)):s=(if lvl=0 then [if t=true then 1 else 0]else [])++r∧(t=true→lvl=0):=by
 unfold pF at h
 split at h
 ·rename_i hl
  rw[if_pos hl]
  split at h
  ·rename_i f s' hk
   obtain⟨rfl,hf⟩:=tk_inv hk
   split at h
   ·rename_i hn
    simp only[Option.some.injEq,Prod.mk.injEq]at h
    obtain⟨rfl,rfl⟩:=h
    refine⟨?_,fun _=>hl⟩
    have hb:=be1 f hf
    congr 1
    rw[← hb]
    generalize nm f 0=n at *
    have:n=0∨n=1:=by omega
    rcases this with rfl|rfl<;>rfl
   ·cases h
  ·cases h
 ·rename_i hl
  simp only[Option.some.injEq,Prod.mk.injEq]at h
  obtain⟨rfl,rfl⟩:=h
  rw[if_neg hl]
  exact⟨rfl,fun q=>(by cases q)⟩
theorem pN_inv{lvl:Int} {t:Bool} {s r:List UInt8} {c:Nat} (h:pN lvl t s=some (c,r)):s=(if lvl > 0∨t=true then be c 4 else [])++r∧c<4294967296∧(¬(lvl > 0∨t=true)→c=0):=by
 unfold pN at h
 split at h
 ·rename_i hl
  rw[if_pos hl]
  split at h
  ·rename_i f s' hk
   obtain⟨rfl,hf⟩:=tk_inv hk
   simp only[Option.some.injEq,Prod.mk.injEq]at h
   obtain⟨rfl,rfl⟩:=h
   refine⟨?_,?_,fun q=>absurd hl q⟩
   ·have:=be_nm0 f
    rw[hf]at this
    rw[this]
   ·have:=nm_lt f 0
    rw[hf]at this
    omega
  ·cases h
 ·rename_i hl
  simp only[Option.some.injEq,Prod.mk.injEq]at h
  obtain⟨rfl,rfl⟩:=h
  rw[if_neg hl]
  exact⟨rfl,by omega,fun _=>rfl⟩
theorem pI_inv{lvl:Int} {s r:List UInt8} {x:Itm} (h:pI lvl s=some (x,r)):s=itB lvl x++r∧IOk lvl x:=by
 unfold pI at h
 split at h
 ·cases h
 rename_i a s1 h1
 obtain⟨rfl,ha⟩:=tk_inv h1
 split at h
 ·cases h
 rename_i k s2 h2
 obtain⟨rfl,hk⟩:=tk_inv h2
 split at h
 ·cases h
 rename_i t s3 h3
 obtain⟨rfl,ht⟩:=pF_inv h3
 split at h
 ·cases h
 rename_i c s4 h4
 obtain⟨rfl,hc,hn⟩:=pN_inv h4
 split at h
 ·cases h
 rename_i m s5 h5
 obtain⟨rfl,hm⟩:=tk_inv h5
 simp only[Option.some.injEq,Prod.mk.injEq]at h
 obtain⟨rfl,rfl⟩:=h
 refine⟨?_,⟨?_,hm,ht,?_,?_,fun q=>?_⟩⟩
 ·unfold itB
  simp only[List.append_assoc,Int.toNat_natCast]
  rw[hk,be1 a ha]
 ·show k.length<256
  have:=nm_lt a 0
  rw[ha]at this
  omega
 ·show(0:Int)≤(c:Int);omega
 ·show(c:Int)<4294967296;omega
 ·show(c:Int)=0
  have:=hn q;omega
theorem pL_inv{lvl:Int}:∀ (n:Nat) (s r:List UInt8) (xs:List Itm),pL lvl n s=some (xs,r)→s=itsB lvl xs++r∧xs.length=n∧∀ x∈xs,IOk lvl x:=by
 intro n
 induction n with
 |zero=>
  intro s r xs h
  simp only[pL,Option.some.injEq,Prod.mk.injEq]at h
  obtain⟨rfl,rfl⟩:=h
  exact⟨rfl,rfl,by simp⟩
 |succ n ih=>
  intro s r xs h
  unfold pL at h
  split at h
  ·cases h
  rename_i x s1 h1
  obtain⟨rfl,hx⟩:=pI_inv h1
  split at h
  ·cases h
  rename_i ys s2 h2
  obtain⟨rfl,hn,hys⟩:=ih _ _ _ h2
  simp only[Option.some.injEq,Prod.mk.injEq]at h
  obtain⟨rfl,rfl⟩:=h
  refine⟨by simp [itsB],by simp [hn],fun y hy=>?_⟩
  rcases List.mem_cons.1 hy with rfl|q
  ·exact hx
  ·exact hys y q
def rF(lvl:Int) (r:List UInt8):Bool×List UInt8:=if lvl=0 then(decide (r.headD 0=1),r.drop 1)else(false,r)
def rN(lvl:Int) (t:Bool) (r:List UInt8):Option (Int×List UInt8):=
 if lvl > 0∨t=true then(if r.length<4 then none else some (((nm (r.take 4) 0:Nat):Int),r.drop 4))else some (0,r)
def rM(k:List UInt8) (t:Bool) (c:Int) (r:List UInt8):Option (Itm×List UInt8):=if r.length<16 then none else some (⟨k,t,c,r.take 16⟩,r.drop 16)
def rI(lvl:Int) (r:List UInt8):Option (Itm×List UInt8):=
 match r with
 | []=>none
 |a::r=>if r.length≤a.toNat then none else
  match rN lvl (rF lvl (r.drop a.toNat)).1 (rF lvl (r.drop a.toNat)).2 with
  |none=>none
  |some (c,q)=>rM (r.take a.toNat) (rF lvl (r.drop a.toNat)).1 c q
def rL(lvl:Int):Nat→List UInt8→Option (List Itm×List UInt8)
 |0,s=>some ([],s)
 |n+1,s=>(match rI lvl s with
  |none=>none
  |some (x,s)=>(match rL lvl n s with
   |none=>none
   |some (xs,s)=>some (x::xs,s)))
theorem rI_sum{lvl:Int} {s r:List UInt8} {x:Itm} (h:rI lvl s=some (x,r)):x.sum.length=16:=by
 unfold rI at h
 split at h
 ·cases h
 split at h
 ·cases h
 split at h
 ·cases h
 unfold rM at h
 split at h
 ·cases h
 rename_i hl
 simp only[Option.some.injEq,Prod.mk.injEq]at h
 obtain⟨rfl,_⟩:=h
 simp only[List.length_take]
 omega
theorem rL_sum{lvl:Int}:∀ (n:Nat) (s r:List UInt8) (xs:List Itm),rL lvl n s=some (xs,r)→xs.length=n∧∀ x∈xs,x.sum.length=16:=by
 intro n
 induction n with
 |zero=>
  intro s r xs h
  simp only[rL,Option.some.injEq,Prod.mk.injEq]at h
  obtain⟨rfl,rfl⟩:=h
  exact⟨rfl,by simp⟩
 |succ n ih=>
  intro s r xs h
  unfold rL at h
  split at h
  ·cases h
  rename_i x s1 h1
  have hx:=rI_sum h1
  split at h
  ·cases h
  rename_i ys s2 h2
  obtain⟨hn,hys⟩:=ih _ _ _ h2
  simp only[Option.some.injEq,Prod.mk.injEq]at h
  obtain⟨rfl,rfl⟩:=h
  refine⟨by simp [hn],fun y hy=>?_⟩
  rcases List.mem_cons.1 hy with rfl|q
  ·exact hx
  ·exact hys y q
theorem be_one{n:Nat}:be n 1=[UInt8.ofNat n]:=rfl
theorem rF_app{lvl:Int} {x:Itm} (O:IOk lvl x) (r:List UInt8):rF lvl ((if lvl=0 then [if x.tree=true then 1 else 0]else [])++r)=(x.tree,r):=by
 unfold rF
 by_cases hl:lvl=0
 ·rw[if_pos hl,if_pos hl]
  cases ht:x.tree
  ·rfl
  ·rfl
 ·rw[if_neg hl,if_neg hl]
  cases ht:x.tree
  ·rfl
  ·exact absurd (O.tr ht) hl
theorem rN_app{lvl:Int} {x:Itm} (O:IOk lvl x) (r:List UInt8):rN lvl x.tree ((if lvl > 0∨x.tree=true then be x.count.toNat 4 else [])++r)=some (x.count,r):=by
 unfold rN
 have e4:(be x.count.toNat 4).length=4:=be_length 4 _
 have h0:=O.c0
 have h1:=O.c1
 by_cases hl:lvl > 0∨x.tree=true
 ·rw[if_pos hl,if_pos hl,if_neg (by simp [e4]),List.take_left' e4,List.drop_left' e4,nm_be,Nat.mod_eq_of_lt (by omega),Int.toNat_of_nonneg h0]
 ·rw[if_neg hl,if_neg hl,O.no hl]
  rfl
theorem rI_app{lvl:Int} {x:Itm} (O:IOk lvl x) (r:List UInt8):rI lvl (itB lvl x++r)=some (x,r):=by
 have hk:=O.key
 have hm:=O.sum
 have hka:(UInt8.ofNat x.key.length).toNat=x.key.length:=by rw[UInt8.toNat_ofNat'];omega
 unfold itB
 simp only[List.append_assoc,be_one,List.cons_append,List.nil_append]
 unfold rI
 simp only[hka]
 rw[if_neg (by simp only[List.length_append];omega),List.drop_left' rfl,List.take_left' rfl]
 have:=rF_app O ((if lvl > 0∨x.tree=true then be x.count.toNat 4 else [])++(x.sum++r))
 simp only[this]
 rw[rN_app O]
 simp only
 unfold rM
 rw[if_neg (by simp only[List.length_append];omega),List.take_left' hm,List.drop_left' hm]
theorem rL_app{lvl:Int}:∀ (xs:List Itm) (r:List UInt8),(∀ x∈xs,IOk lvl x)→rL lvl xs.length (itsB lvl xs++r)=some (xs,r):=by
 intro xs
 induction xs with
 |nil=>intro r _;rfl
 |cons x xs ih=>
  intro r O
  show(match rI lvl ((itB lvl x++itsB lvl xs)++r)with|none=>none|some (x,s)=>_)=_
  rw[List.append_assoc,rI_app (O x (List.mem_cons_self ..))]
  simp only
  rw[ih r fun y hy=>O y (List.mem_cons_of_mem _ hy)]
section
structure VKnown (V:Int→List Itm→Prop):Prop where
 lo:∀ {l xs},V l xs→0≤l∧l<256∧xs.length<65536
 it:∀ {l xs x},V l xs→x∈xs→x.sum.length=16→IOk l x
variable (V:Int→List Itm→Prop) [∀ l xs,Decidable (V l xs)]
def pC(s:List UInt8):Option (Int×List Itm):=
 match tk 1 s with
 |none=>none
 |some (a,s)=>(match tk 2 s with
  |none=>none
  |some (b,s)=>(match pL (nm a 0:Nat) (nm b 0) s with
   |none=>none
   |some (xs,s)=>if s=[]∧V (nm a 0:Nat) xs then some ((nm a 0:Nat),xs)else none))
def rC(s:List UInt8):Option (Int×List Itm):=
 if s.length<3 then none else
 match rL (s.headD 0).toNat (nm ((s.drop 1).take 2) 0) (s.drop 3)with
 |none=>none
 |some (xs,_)=>if V (s.headD 0).toNat xs∧cB (s.headD 0).toNat xs=s then some ((s.headD 0).toNat,xs)else none
theorem pC_inv{s:List UInt8} {l:Int} {xs:List Itm} (h:pC V s=some (l,xs)):V l xs∧cB l xs=s∧∀ x∈xs,IOk l x:=by
 unfold pC at h
 split at h
 ·cases h
 rename_i a s1 h1
 obtain⟨rfl,ha⟩:=tk_inv h1
 split at h
 ·cases h
 rename_i b s2 h2
 obtain⟨rfl,hb⟩:=tk_inv h2
 split at h
 ·cases h
 rename_i ys s3 h3
 obtain⟨rfl,hn,hys⟩:=pL_inv _ _ _ _ h3
 split at h
 ·rename_i hv
  obtain⟨rfl,hv⟩:=hv
  simp only[Option.some.injEq,Prod.mk.injEq]at h
  obtain⟨rfl,rfl⟩:=h
  refine⟨hv,?_,hys⟩
  unfold cB
  have:=be_nm0 b
  rw[hb]at this
  rw[Int.toNat_natCast,be1 a ha,hn,this,List.append_nil]
 ·cases h
theorem pC_cB(K:VKnown V) {l:Int} {xs:List Itm} (hv:V l xs) (hs:∀ x∈xs,x.sum.length=16):pC V (cB l xs)=some (l,xs):=by
 obtain⟨h0,h1,h2⟩:=K.lo hv
 obtain⟨n,rfl⟩:∃ n:Nat,l=n:=⟨l.toNat,by omega⟩
 unfold pC cB
 rw[tk_app _ (be_length 1 _)]
 simp only
 rw[tk_app _ (be_length 2 _)]
 simp only[Int.toNat_natCast]
 rw[nm1 (by omega),nm_be,Nat.mod_eq_of_lt (by omega)]
 have:=pL_app (lvl:=(n:Int)) xs [] fun x hx=>K.it hv hx (hs x hx)
 rw[List.append_nil]at this
 rw[this]
 simp only
 rw[if_pos ⟨trivial,hv⟩]
theorem rC_eq(K:VKnown V) (s:List UInt8):rC V s=pC V s:=by
 cases hp:pC V s with
 |some z=>
  obtain⟨l,xs⟩:=z
  obtain⟨hv,rfl,hi⟩:=pC_inv V hp
  obtain⟨h0,h1,h2⟩:=K.lo hv
  obtain⟨n,rfl⟩:∃ n:Nat,l=n:=⟨l.toNat,by omega⟩
  have e2:(be xs.length 2).length=2:=be_length 2 _
  have ea:(UInt8.ofNat n).toNat=n:=by rw[UInt8.toNat_ofNat'];omega
  have hc:cB n xs=UInt8.ofNat n::(be xs.length 2++itsB n xs):=by
   unfold cB
   rw[Int.toNat_natCast];rfl
  have hlen:¬(cB n xs).length<3:=by rw[hc];simp [e2]
  unfold rC
  rw[if_neg hlen]
  have h3:(cB n xs).drop 3=itsB n xs:=by
   rw[hc]
   show(be xs.length 2++itsB n xs).drop 2=_
   rw[List.drop_left' e2]
  have h4:((cB n xs).drop 1).take 2=be xs.length 2:=by
   rw[hc]
   show(be xs.length 2++itsB n xs).take 2=_
   rw[List.take_left' e2]
  have h5:((cB n xs).headD 0).toNat=n:=by rw[hc];exact ea
  rw[h3,h4,h5,nm_be,Nat.mod_eq_of_lt (by omega)]
  have:=rL_app (lvl:=(n:Int)) xs [] hi
  rw[List.append_nil]at this
  rw[this]
  simp only
  rw[if_pos ⟨hv,trivial⟩]
 |none=>
  unfold rC
  split
  ·rfl
  split
  ·rfl
  rename_i xs r hr
  split
  ·rename_i hv
   obtain⟨hv,hs⟩:=hv
   have:=pC_cB V K hv (rL_sum _ _ _ _ hr).2
   rw[hs,hp]at this
   cases this
  ·rfl
end
end Go.Proofs
set_option maxRecDepth 100000
namespace Go.Proofs
open Go Go.Ai
theorem fld_at{c:Ctx} {h:List Ob} {v:AV} {xs:List PV} {k sz:Nat} {s ty:TypeId} {f m:Nat} {w:PV} (H:Sl h sz v xs) (hk:k<xs.length)
  (hf:(fieldOf c s f).map (fun f=>(f.type,f.offset))=some (ty,m)) (hs:sizeOf? c ty=some 1) (ha:aggT? c ty=some false) (hw:pget (xs.getD k .nilp).cells m=some w) (hn:∀ cs,w ≠ .agg cs) :
  ∃ a,fieldAddr? c s (rdS v k) f=some a∧load? c h ty a=some (.p w):=by
 cases hq:fieldOf c s f with
 |none=>rw[hq]at hf;cases hf
 |some fd=>
  rw[hq]at hf
  have h1:=Option.some.inj hf
  simp only[Prod.mk.injEq]at h1
  obtain⟨h1,h2⟩:=h1
  have hp:part? c ty (xs.getD k .nilp).cells m=some w:=by unfold part?;rw[ha];exact hw
  have hl:loadC c ty w=some (.p w):=by
   unfold loadC;rw[ha]
   cases w<;>first|rfl|exact absurd rfl (hn _)
  cases H with
  |nil=>simp at hk
  |vec|full=>
   refine⟨.cptr w,?_,hl⟩
   unfold fieldAddr?
   simp only[hq,h1,hs,h2,rdS,hp]
  | @sl i g off len ys _ hr hs'=>
   refine⟨.el i g sz (off+k) m,?_,?_⟩
   ·unfold fieldAddr?
    simp only[hq,h1,hs,h2,rdS,forceN_eq,Nat.zero_add]
   ·show loadEl c h ty i g sz (off+k) m=_
    unfold loadEl
    rw[hr]
    obtain⟨g1,g2,g3⟩:=sub_len hs'
    have hg:ys[off+k]?=some (xs.getD k .nilp):=by
     subst g3
     have:k<len:=by omega
     rw[List.getElem?_eq_getElem (by omega)]
     simp [List.getD,this,show off+k<ys.length by omega]
    simp only[pget_eq,hg,hp]
def Itm.cs(x:Itm):List PV:=.str x.key :: .bool x.tree :: .int .i64 x.count::bytesPV x.sum
def Itm.V(x:Itm):PV:=.agg x.cs
def Itm.z:Itm:=⟨[],false,0,List.replicate 16 0⟩
def Itm.c(x:Itm):Ob:=.cells 46 (x.cs.map .p)
def Itm.ok(x:Itm):Prop:=x.sum.length=16
theorem Itm.len{x:Itm} (h:x.ok):x.cs.length=19:=by
 unfold Itm.cs bytesPV
 simp only[List.length_cons,List.length_map]
 unfold Itm.ok at h
 omega
theorem z46:zero? cx 46=some Itm.z.V:=by kernel_rfl
theorem it_d{xs:List Itm} {k:Nat} (hk:k<xs.length):(xs.map Itm.V).getD k .nilp=(xs.getD k Itm.z).V:=by simp [List.getD,hk]
theorem it_mem{xs:List Itm} {k:Nat} (hk:k<xs.length):xs.getD k Itm.z∈xs:=by
 simp [List.getD,hk]
theorem it_at{h:List Ob} {v:AV} {xs:List Itm} {k:Nat} (H:Sl h 19 v (xs.map Itm.V)) (hk:k<xs.length) (hok:∀ x∈xs,x.ok) :
  indexAddr? cx 42 v (.p (.int .i64 (k:Int)))=some (rdS v k)∧load? cx h 46 (rdS v k)=some (.p (xs.getD k Itm.z).V):=by
 constructor
 ·rw[H.at (sz:=18) u42 s46 (by omega) (by rw[List.length_map];omega),Int.toNat_natCast]
 ·have:=H.load (c:=cx) (e:=46) (k:=k) (by rw[List.length_map];exact hk) (by rw[it_d hk];exact eok_agg a46 s46 (Itm.len (hok _ (it_mem hk))))
  rw[this,it_d hk]
theorem it_key{h:List Ob} {v:AV} {xs:List Itm} {k:Nat} (H:Sl h 19 v (xs.map Itm.V)) (hk:k<xs.length) :
  ∃ a,fieldAddr? cx 46 (rdS v k) 0=some a∧load? cx h 9 a=some (.p (.str (xs.getD k Itm.z).key)):=
 fld_at H (by rw[List.length_map];exact hk) f46_0 s9 a9 (by rw[it_d hk];rfl) (fun cs q=>by cases q)
theorem it_st{h:List Ob} {i:Nat} {cs:List AV} {x:Itm} (hi:hget h i=.cells 46 cs) (hx:x.ok) (hl:cs.length=19):store? cx h 46 (.ptr i 0) (.p x.V)=.ws undefA i x.c:=
 store_whole s46 hi rfl (by rw[List.length_map];exact Itm.len hx) hl
theorem zc_len:(Itm.z.V.cells.map AV.p).length=19:=by decide
theorem it_ld{h:List Ob} {i:Nat} {x:Itm} (hi:hget h i=x.c) (hx:x.ok):load? cx h 46 (.ptr i 0)=some (.p x.V):=
 (load_whole a46 s46 hi (by rw[List.length_map];exact Itm.len hx)).trans (congrArg some (mkAgg_p _))
theorem it_l0{h:List Ob} {i:Nat} {x:Itm} (hi:hget h i=x.c):load? cx h 9 (.ptr i 0)=some (.p (.str x.key)):=load_one a9 hi rfl
theorem it_l1{h:List Ob} {i:Nat} {x:Itm} (hi:hget h i=x.c):load? cx h 4 (.ptr i 1)=some (.p (.bool x.tree)):=load_one a4 hi rfl
theorem it_l2{h:List Ob} {i:Nat} {x:Itm} (hi:hget h i=x.c):load? cx h 3 (.ptr i 2)=some (.p (.int .i64 x.count)):=load_one a3 hi rfl
theorem fp46_0(k:Nat):fieldAddr? cx 46 (.ptr k 0) 0=some (.ptr k 0):=fieldAddr_ptr (m:=0) f46_0 s9
theorem fp46_1(k:Nat):fieldAddr? cx 46 (.ptr k 0) 1=some (.ptr k 1):=fieldAddr_ptr (m:=0) f46_1 s4
theorem fp46_2(k:Nat):fieldAddr? cx 46 (.ptr k 0) 2=some (.ptr k 2):=fieldAddr_ptr (m:=0) f46_2 s3
theorem fp46_3(k:Nat):fieldAddr? cx 46 (.ptr k 0) 3=some (.ptr k 3):=fieldAddr_ptr (m:=15) f46_3 s27
theorem fp44_0(k:Nat):fieldAddr? cx 44 (.ptr k 0) 0=some (.ptr k 0):=fieldAddr_ptr (m:=0) f44_0 s3
theorem fp44_1(k:Nat):fieldAddr? cx 44 (.ptr k 0) 1=some (.ptr k 1):=fieldAddr_ptr (m:=0) f44_1 s42
theorem it_box(h:List Ob) (x:Itm):boxW h 46 (.p x.V)=.wn (.ptr h.length 0) x.c:=rfl
def ConO(h:List Ob) (X:AV) (l:Int) (xs:List Itm):Prop:=∃ v,X.cells?=some [.p (.int .i64 l),v]∧Sl h 19 v (xs.map Itm.V)
theorem con_box{h hh:List Ob} {X:AV} {l:Int} {v:AV} (H:X.cells?=some [.p (.int .i64 l),v]):boxW hh 44 X=.wn (.ptr hh.length 0) (.cells 44 [.p (.int .i64 l),v]):=by
 unfold boxW
 rw[H]
theorem con_l0{h:List Ob} {i:Nat} {l:Int} {v:AV} (hi:hget h i=.cells 44 [.p (.int .i64 l),v]):load? cx h 3 (.ptr i 0)=some (.p (.int .i64 l)):=load_one a3 hi rfl
theorem con_l1{h:List Ob} {i:Nat} {l:Int} {v:AV} (hi:hget h i=.cells 44 [.p (.int .i64 l),v]):load? cx h 42 (.ptr i 1)=some v:=load_one a42 hi rfl
def vI(l:Int) (x:Itm):Bool:=if decide (l=0) && !x.tree then decide (x.count=0)else(decide (l=0) == x.tree)&&decide (1≤x.count)&&decide (x.count≤2147483647)
def vK(k:List UInt8):Bool:=decide (1≤k.length)&&decide (k.length≤48)
def vAt(l:Int) (xs:List Itm) (i:Nat):Prop:=vI l (xs.getD i Itm.z)=true∧(if 0<l∧i=0 then(xs.getD i Itm.z).key=[]else vK (xs.getD i Itm.z).key=true∧(0<i→Op.bytesLess (xs.getD (i-1) Itm.z).key (xs.getD i Itm.z).key=true))
def VP(l:Int) (xs:List Itm):Prop:=(0≤l∧l≤20∧1≤xs.length∧xs.length≤65535∧(0<l→2≤xs.length))∧∀ i,i<xs.length→vAt l xs i
open Classical in
noncomputable def vB(l:Int) (xs:List Itm):Bool:=decide (VP l xs)
theorem vB_f{l xs} (h:¬VP l xs):false=vB l xs:=by unfold vB;simp [h]
theorem vB_t{l xs} (h:VP l xs):true=vB l xs:=by unfold vB;simp [h]
theorem vp_known:VKnown VP:=by
 refine⟨fun {l xs} h=>⟨h.1.1,by have:=h.1.2.1;omega,by have:=h.1.2.2.2.1;omega⟩,fun {l xs x} h hx hs=>?_⟩
 obtain⟨i,hi,rfl⟩:=List.getElem_of_mem hx
 have hv:=h.2 i hi
 have e:xs.getD i Itm.z=xs[i]:=by simp [List.getD,hi]
 unfold vAt at hv
 rw[e]at hv
 obtain⟨h1,h2⟩:=hv
 have h0:=h.1.1
 refine⟨?_,hs,?_,?_,?_,?_⟩
 ·split at h2
  ·rw[h2];decide
  ·have:=h2.1
   unfold vK at this
   simp at this
   omega
 all_goals
  unfold vI at h1
  split at h1
  ·rename_i q
   simp at q h1
   grind
  ·simp at h1
   grind
section
variable {o:Orc} (ho:FreeT o)
include ho
theorem validK96(s:List UInt8) (hs:s.length<1000000000):Ct cx o (.fn 96 [.p (.str s)]) [] (fun e _=>e=.ret (.p (.bool (vK s)))):=by
 refine ct96 (ho _ _ _ (by decide)) rfl ?_
 simp only[sc96r0,sc96r1,sc96,↓rwS,↓rwX,rwZ,rwT,rwG,Nat.reduceEqDiff,Nat.reduceAdd,reduceCtorEq,Nat.reduceLT, *]
 repeat' (refine spl (fun hb=>?_) (fun hb=>?_)<;>try simp only[sc96r0,sc96r1,sc96,↓rwS,↓rwX,rwZ,rwT,rwG,Nat.reduceEqDiff,Nat.reduceAdd,reduceCtorEq,Nat.reduceLT, *])
 all_goals(refine ret_bool ?_;unfold vK;grind)
theorem isK146(s:List UInt8) (hs:s.length<1000000000):Ct cx o (.fn 146 [.p (.str s)]) [] (fun e _=>e=.ret (.p (.bool (vK s)))):=by
 refine ct146 (ho _ _ _ (by decide)) rfl ?_
 simp only[sc146r0,sc146r1,sc146,↓rwS,↓rwX,rwZ,rwT,rwG,Nat.reduceEqDiff,Nat.reduceAdd,reduceCtorEq,Nat.reduceLT, *]
 repeat' (refine spl (fun hb=>?_) (fun hb=>?_)<;>try simp only[sc146r0,sc146r1,sc146,↓rwS,↓rwX,rwZ,rwT,rwG,Nat.reduceEqDiff,Nat.reduceAdd,reduceCtorEq,Nat.reduceLT, *])
 all_goals(refine ret_bool ?_;unfold vK;grind)
theorem isC145(n:Int):Ct cx o (.fn 145 [.p (.int .i64 n)]) [] (fun e _=>e=.ret (.p (.bool (decide (1≤n)&&decide (n≤2147483647))))):=by
 refine ct145 (ho _ _ _ (by decide)) rfl ?_
 simp only[sc145r0,sc145r1,sc145,↓rwS,↓rwX,rwZ,rwT,rwG,Nat.reduceEqDiff,Nat.reduceAdd,reduceCtorEq,Nat.reduceLT, *]
 repeat' (refine spl (fun hb=>?_) (fun hb=>?_)<;>try simp only[sc145r0,sc145r1,sc145,↓rwS,↓rwX,rwZ,rwT,rwG,Nat.reduceEqDiff,Nat.reduceAdd,reduceCtorEq,Nat.reduceLT, *])
 all_goals(refine ret_bool ?_;grind)
theorem validI144(x:Itm) (l:Int):Ct cx o (.fn 144 [.p x.V,.p (.int .i64 l)]) [] (fun e _=>e=.ret (.p (.bool (vI l x)))):=by
 refine ct144 (ho _ _ _ (by decide)) rfl ?_
 have l1:=it_l1 (h:=[x.c]) (i:=0) (x:=x) rfl
 have l2:=it_l2 (h:=[x.c]) (i:=0) (x:=x) rfl
 simp only[sc144r0,sc144r1,sc144r2,sc144r3,sc144,↓rwS,↓rwX,rwZ,rwT,rwG,Nat.reduceEqDiff,Nat.reduceAdd,reduceCtorEq,Nat.reduceLT,eql_b,it_box,fp46_1,fp46_2,List.nil_append,List.length_nil, *]
 repeat' (refine spl (fun hb=>?_) (fun hb=>?_)<;>try simp only[sc144r0,sc144r1,sc144r2,sc144r3,sc144,↓rwS,↓rwX,rwZ,rwT,rwG,Nat.reduceEqDiff,Nat.reduceAdd,reduceCtorEq,Nat.reduceLT,eql_b,it_box,fp46_1,fp46_2,List.nil_append,List.length_nil, *])
 all_goals(refine ret_bool ?_;unfold vI;grind)
end
theorem ret_boolE{h hh:List Ob} {b c:Bool} (he:∃ ext,hh=h++ext) (h':b=c):(∃ ext,hh=h++ext)∧AEnd.ret (.p (.bool b))=.ret (.p (.bool c)):=⟨he,by rw[h']⟩
theorem ext_app{h N:List Ob} (he:∃ ext,N=h++ext) (Z:List Ob):∃ ext,N++Z=h++ext:=by
  obtain⟨e,rfl⟩:=he
  exact⟨e++Z,by rw[List.append_assoc]⟩
section
variable {o:Orc} (ho:FreeT o)
include ho
theorem cK96{s:List UInt8} (hs:s.length<1000000000) {h dst t d r k Q}:callW cx o dst t h d r (some (.fn 96 [.p (.str s)])) k Q=k (put dst (.p (.bool (vK s))) t) h d r:=callW_ret ext96 (cs_p (f:=96) (ps:=[.str s]) rfl (validK96 ho s hs))
theorem cK146{s:List UInt8} (hs:s.length<1000000000) {h dst t d r k Q}:callW cx o dst t h d r (some (.fn 146 [.p (.str s)])) k Q=k (put dst (.p (.bool (vK s))) t) h d r:=callW_ret ext146 (cs_p (f:=146) (ps:=[.str s]) rfl (isK146 ho s hs))
theorem cC145{n:Int} {h dst t d r k Q}:callW cx o dst t h d r (some (.fn 145 [.p (.int .i64 n)])) k Q=k (put dst (.p (.bool (decide (1≤n)&&decide (n≤2147483647)))) t) h d r:=callW_ret ext145 (cs_p (f:=145) (ps:=[.int .i64 n]) rfl (isC145 ho n))
theorem cI144{x:Itm} {l:Int} {h dst t d r k Q}:callW cx o dst t h d r (some (.fn 144 [.p x.V,.p (.int .i64 l)])) k Q=k (put dst (.p (.bool (vI l x))) t) h d r:=callW_ret ext144 (cs_p (f:=144) (ps:=[x.V,.int .i64 l]) rfl (validI144 ho x l))
set_option maxHeartbeats 4000000 in
theorem valid52 {h : List Ob} {X : AV} {l : Int} {xs : List Itm} (H : ConO h X l xs) (hok : ∀ x ∈ xs, x.ok) (hn : xs.length < 100000) (hk : ∀ x ∈ xs, x.key.length < 1000000) :
    Ct cx o (.fn 52 [X]) h (fun e h1=>(∃ ext,h1=h++ext)∧e=.ret (.p (.bool (vB l xs)))):=by
  refine ct52 (ho _ _ _ (by decide)) rfl ?_
  obtain⟨v,hX,hv⟩:=H
  have hbox:∀ hh:List Ob,boxW hh 44 X=.wn (.ptr hh.length 0) (.cells 44 [.p (.int .i64 l),v]):=fun hh=>con_box (h:=h) hX
  have l0:=con_l0 (hget_new h (.cells 44 [.p (.int .i64 l),v]))
  have l1:=con_l1 (hget_new h (.cells 44 [.p (.int .i64 l),v]))
  have hlen:=(hv.ext [.cells 44 [.p (.int .i64 l),v]]).len u42
  rw[List.length_map]at hlen
  simp only[sc52r0,sc52r1,sc52r2,sc52r3,sc52r4,sc52r5,sc52r6,sc52r7,sc52r8,sc52r9,sc52r10,sc52r11,sc52r12,sc52d12_x,sc52r13,sc52r14,sc52r16,sc52,↓rwS,↓rwX,rwZ,rwT,rwG,Nat.reduceEqDiff,Nat.reduceAdd,reduceCtorEq,Nat.reduceLT,hbox,fp44_0,fp44_1,l0,l1,hlen, *]
  repeat' (refine spl (fun hb=>?_) (fun hb=>?_)<;>try simp only[sc52r0,sc52r1,sc52r2,sc52r3,sc52r4,sc52r5,sc52r6,sc52r7,sc52r8,sc52r9,sc52r10,sc52r11,sc52r12,sc52d12_x,sc52r13,sc52r14,sc52r16,sc52,↓rwS,↓rwX,rwZ,rwT,rwG,Nat.reduceEqDiff,Nat.reduceAdd,reduceCtorEq,Nat.reduceLT,hbox,fp44_0,fp44_1,l0,l1,hlen, *])
  all_goals first
    | (refine ret_boolE ⟨_,rfl⟩ (vB_f fun q=>?_);unfold VP at q;grind)
    |skip
  all_goals
    have hpre:0≤l∧l≤20∧1≤xs.length∧xs.length≤65535∧(0<l→2≤xs.length):=by grind
    refine xC_loop (fun n t h' d r=>∃ (i:Nat) (E:List Ob),n=xs.length-i∧i≤xs.length∧(∀ k,k<i→vAt l xs k)∧h'=h ++ .cells 44 [.p (.int .i64 l),v]::E∧d=[]∧r=none∧t.get 1=.ptr h.length 0∧t.get 35=v∧t.get 36=.p (.int .i64 (xs.length:Int))∧t.get 37=.p (.int .i64 (i:Int))) xs.length ?_ ?_
    · refine⟨0,[],rfl,by omega,fun k hk=>by omega,rfl,rfl,rfl,?_⟩
      simp only[↓rwA,rwB,rwG,Nat.reduceEqDiff,Nat.reduceAdd,reduceCtorEq,Nat.reduceLT,true_and]
      first|rfl|exact trivial
    · rintro n t h' d r ⟨i,E,rfl,hi,hall,hN,rfl,rfl,t1,t35,t36,t37⟩
      have gN:hget h' h.length=.cells 44 [.p (.int .i64 l),v]:=by rw[hN,hget_eq,List.getElem?_append_right (Nat.le_refl _),Nat.sub_self];rfl
      have HN:Sl h' 19 v (xs.map Itm.V):=by rw[hN];exact hv.ext _
      have hext:∃ ext,h'=h++ext:=⟨_,hN⟩
      have hlN:=hget_cells_lt gN
      have hE:∃ E,h'=h ++ .cells 44 [.p (.int .i64 l),v]::E:=⟨E,hN⟩
      clear l0 l1 hlen hN
      have w1:=one63 (show i+1<9223372036854775808 by omega)
      by_cases hlt:i<xs.length
      · have e1:decide ((i:Int)<(xs.length:Int))=true:=decide_eq_true (by omega)
        obtain⟨a1,a2⟩:=it_at HN hlt hok
        have hx:=hok _ (it_mem hlt)
        have hkx:=hk _ (it_mem hlt)
        generalize hxx:xs.getD i Itm.z=x at *
        have st:=it_st (x:=x) (hget_new h' (.cells 46 (Itm.z.V.cells.map .p))) hx zc_len
        have gM:hget (h'++[x.c]) h.length=.cells 44 [.p (.int .i64 l),v]:=by rw[hget_app _ _ _ hlN];exact gN
        have m0:=con_l0 gM
        have m1:=con_l1 gM
        have k0:=it_l0 (hget_new h' x.c)
        have kv:=it_ld (hget_new h' x.c) hx
        by_cases h0:0<i
        · have e2:decide (0<(i:Int))=true:=decide_eq_true (by omega)
          have e3:decide ((i:Int)=0)=false:=decide_eq_false (by omega)
          have w2:=pred64 (show i<4611686018427387904 by omega) h0
          obtain⟨b1,_⟩:=it_at HN (show i-1<xs.length by omega) hok
          obtain⟨a,b2,b3⟩:=it_key (HN.ext [x.c]) (show i-1<xs.length by omega)
          simp only[sc52r0,sc52r1,sc52r2,sc52r3,sc52r4,sc52r5,sc52r6,sc52r7,sc52r8,sc52r9,sc52r10,sc52r11,sc52r12,sc52d12_x,sc52r13,sc52r14,sc52l15,sc52r16,sc52,↓rwS,↓rwX,rwZ,rwT,rwG,Nat.reduceEqDiff,Nat.reduceAdd,reduceCtorEq,Nat.reduceLT,↓rwC,rwD,rwI,Nat.reduceSub,Nat.reduceLeDiff,LW_bt,LW_bf,true_and,t1,t35,t36,t37,e1,e2,e3,a1,a2,z46,st,hset_end,fp46_0,fp44_0,fp44_1,m0,m1,k0,kv,cI144 ho,cK96 ho (show x.key.length<1000000000 by omega),b1,b2,b3,geq_s,w1,w2, *]
          repeat' (refine spl (fun hb=>?_) (fun hb=>?_)<;>try simp only[sc52r0,sc52r1,sc52r2,sc52r3,sc52r4,sc52r5,sc52r6,sc52r7,sc52r8,sc52r9,sc52r10,sc52r11,sc52r12,sc52d12_x,sc52r13,sc52r14,sc52l15,sc52r16,sc52,↓rwS,↓rwX,rwZ,rwT,rwG,Nat.reduceEqDiff,Nat.reduceAdd,reduceCtorEq,Nat.reduceLT,↓rwC,rwD,rwI,Nat.reduceSub,Nat.reduceLeDiff,LW_bt,LW_bf,true_and,t1,t35,t36,t37,e1,e2,e3,a1,a2,z46,st,hset_end,fp46_0,fp44_0,fp44_1,m0,m1,k0,kv,cI144 ho,cK96 ho (show x.key.length<1000000000 by omega),b1,b2,b3,geq_s,w1,w2, *])
          all_goals first
            | (refine ret_boolE (ext_app hext _) (vB_f fun q=>?_);have q:=q.2 i hlt;unfold vAt at q;grind)
            | (obtain ⟨E, hE⟩ := hE
               refine⟨_,?_,i+1,E++[x.c],rfl,by omega,fun k hk=>?_,by rw[hE,List.append_assoc];rfl,?_⟩
               · omega
               · by_cases qk:k=i
                 · subst qk;unfold vAt;grind
                 · exact hall k (by omega)
               · first|rfl|exact trivial|exact⟨rfl,rfl⟩)
        · have e2:decide (0<(i:Int))=false:=decide_eq_false (by omega)
          have e3:decide ((i:Int)=0)=true:=decide_eq_true (by omega)
          simp only[sc52r0,sc52r1,sc52r2,sc52r3,sc52r4,sc52r5,sc52r6,sc52r7,sc52r8,sc52r9,sc52r10,sc52r11,sc52r12,sc52d12_x,sc52r13,sc52r14,sc52l15,sc52r16,sc52,↓rwS,↓rwX,rwZ,rwT,rwG,Nat.reduceEqDiff,Nat.reduceAdd,reduceCtorEq,Nat.reduceLT,↓rwC,rwD,rwI,Nat.reduceSub,Nat.reduceLeDiff,LW_bt,LW_bf,true_and,t1,t35,t36,t37,e1,e2,e3,a1,a2,z46,st,hset_end,fp46_0,fp44_0,fp44_1,m0,m1,k0,kv,cI144 ho,cK96 ho (show x.key.length<1000000000 by omega),w1, *]
          repeat' (refine spl (fun hb=>?_) (fun hb=>?_)<;>try simp only[sc52r0,sc52r1,sc52r2,sc52r3,sc52r4,sc52r5,sc52r6,sc52r7,sc52r8,sc52r9,sc52r10,sc52r11,sc52r12,sc52d12_x,sc52r13,sc52r14,sc52l15,sc52r16,sc52,↓rwS,↓rwX,rwZ,rwT,rwG,Nat.reduceEqDiff,Nat.reduceAdd,reduceCtorEq,Nat.reduceLT,↓rwC,rwD,rwI,Nat.reduceSub,Nat.reduceLeDiff,LW_bt,LW_bf,true_and,t1,t35,t36,t37,e1,e2,e3,a1,a2,z46,st,hset_end,fp46_0,fp44_0,fp44_1,m0,m1,k0,kv,cI144 ho,cK96 ho (show x.key.length<1000000000 by omega),w1, *])
          all_goals first
            | (refine ret_boolE (ext_app hext _) (vB_f fun q=>?_);have q:=q.2 i hlt;unfold vAt at q;grind)
            | (obtain ⟨E, hE⟩ := hE
               refine⟨_,?_,i+1,E++[x.c],rfl,by omega,fun k hk=>?_,by rw[hE,List.append_assoc];rfl,?_⟩
               · omega
               · by_cases qk:k=i
                 · subst qk;unfold vAt;grind
                 · exact hall k (by omega)
               · first|rfl|exact trivial|exact⟨rfl,rfl⟩)
      · have e1:decide ((i:Int)<(xs.length:Int))=false:=decide_eq_false (by omega)
        simp only[sc52r0,sc52r1,sc52r2,sc52r3,sc52r4,sc52r5,sc52r6,sc52r7,sc52r8,sc52r9,sc52r10,sc52r11,sc52r12,sc52d12_x,sc52r13,sc52r14,sc52l15,sc52r16,sc52,↓rwS,↓rwX,rwZ,rwT,rwG,Nat.reduceEqDiff,Nat.reduceAdd,reduceCtorEq,Nat.reduceLT,t1,t35,t36,t37,e1]
        exact ret_boolE hext (vB_t ⟨hpre,fun k hk=>hall k (by omega)⟩)
end
theorem neq_b{q:Bool} {a b:Bool}:bin3 .neq cx 4 q (.p (.bool a)) (.p (.bool b))=.w (.p (.bool (!(a == b)))):=by
  show(match eq? cx 4 q (.p (.bool a)) (.p (.bool b))with|some b=>resB (!b)|none=>.no)=_
  have:eq? cx 4 q (.p (.bool a)) (.p (.bool b))=some (a == b):=by unfold eq?;rw[u4]
  rw[this];exact resB_eq _
section
variable {o:Orc} (ho:FreeT o)
include ho
set_option maxHeartbeats 4000000 in
theorem is54 {h : List Ob} {X : AV} {l : Int} {xs : List Itm} (H : ConO h X l xs) (hok : ∀ x ∈ xs, x.ok) (hn : xs.length < 100000) (hk : ∀ x ∈ xs, x.key.length < 1000000) :
    Ct cx o (.fn 54 [X]) h (fun e h1=>(∃ ext,h1=h++ext)∧e=.ret (.p (.bool (vB l xs)))):=by
  refine ct54 (ho _ _ _ (by decide)) rfl ?_
  obtain⟨v,hX,hv⟩:=H
  have hbox:∀ hh:List Ob,boxW hh 44 X=.wn (.ptr hh.length 0) (.cells 44 [.p (.int .i64 l),v]):=fun hh=>con_box (h:=h) hX
  have l0:=con_l0 (hget_new h (.cells 44 [.p (.int .i64 l),v]))
  have l1:=con_l1 (hget_new h (.cells 44 [.p (.int .i64 l),v]))
  have hlen:=(hv.ext [.cells 44 [.p (.int .i64 l),v]]).len u42
  rw[List.length_map]at hlen
  simp only[sc54r0,sc54r1,sc54r2,sc54r3,sc54r4,sc54r5,sc54r6,sc54r7,sc54r8,sc54r9,sc54d9_x,sc54r10,sc54r11,sc54r12,sc54r13,sc54r14,sc54d14_x,sc54r15,sc54r16,sc54r18,sc54,↓rwS,↓rwX,rwZ,rwT,rwG,Nat.reduceEqDiff,Nat.reduceAdd,reduceCtorEq,Nat.reduceLT,hbox,fp44_0,fp44_1,l0,l1,hlen, *]
  repeat' (refine spl (fun hb=>?_) (fun hb=>?_)<;>try simp only[sc54r0,sc54r1,sc54r2,sc54r3,sc54r4,sc54r5,sc54r6,sc54r7,sc54r8,sc54r9,sc54d9_x,sc54r10,sc54r11,sc54r12,sc54r13,sc54r14,sc54d14_x,sc54r15,sc54r16,sc54r18,sc54,↓rwS,↓rwX,rwZ,rwT,rwG,Nat.reduceEqDiff,Nat.reduceAdd,reduceCtorEq,Nat.reduceLT,hbox,fp44_0,fp44_1,l0,l1,hlen, *])
  all_goals first
    | (refine ret_boolE ⟨_,rfl⟩ (vB_f fun q=>?_);unfold VP at q;grind)
    |skip
  all_goals
    have hpre:0≤l∧l≤20∧1≤xs.length∧xs.length≤65535∧(0<l→2≤xs.length):=by grind
    refine xC_loop (fun n t h' d r=>∃ (i:Nat) (E:List Ob),n=xs.length-i∧i≤xs.length∧(∀ k,k<i→vAt l xs k)∧h'=h ++ .cells 44 [.p (.int .i64 l),v]::E∧d=[]∧r=none∧t.get 1=.ptr h.length 0∧t.get 4=.p (.int .i64 (i:Int))) xs.length ?_ ?_
    · refine⟨0,[],rfl,by omega,fun k hk=>by omega,rfl,rfl,rfl,?_⟩
      simp only[↓rwA,rwB,rwG,Nat.reduceEqDiff,Nat.reduceAdd,reduceCtorEq,Nat.reduceLT,true_and]
      first|rfl|exact trivial
    · rintro n t h' d r ⟨i,E,rfl,hi,hall,hN,rfl,rfl,t1,t4⟩
      have gN:hget h' h.length=.cells 44 [.p (.int .i64 l),v]:=by rw[hN,hget_eq,List.getElem?_append_right (Nat.le_refl _),Nat.sub_self];rfl
      have HN:Sl h' 19 v (xs.map Itm.V):=by rw[hN];exact hv.ext _
      have hext:∃ ext,h'=h++ext:=⟨_,hN⟩
      have hlN:=hget_cells_lt gN
      have hE:∃ E,h'=h ++ .cells 44 [.p (.int .i64 l),v]::E:=⟨E,hN⟩
      clear l0 l1 hlen hN
      have n1:=con_l1 gN
      have hlen:=HN.len u42
      rw[List.length_map]at hlen
      have w1:=one63 (show i+1<9223372036854775808 by omega)
      by_cases hlt:i<xs.length
      · have e1:decide ((i:Int)<(xs.length:Int))=true:=decide_eq_true (by omega)
        obtain⟨a1,a2⟩:=it_at HN hlt hok
        have hx:=hok _ (it_mem hlt)
        have hkx:=hk _ (it_mem hlt)
        generalize hxx:xs.getD i Itm.z=x at *
        have st:=it_st (x:=x) (hget_new h' (.cells 46 (Itm.z.V.cells.map .p))) hx zc_len
        have gM:hget (h'++[x.c]) h.length=.cells 44 [.p (.int .i64 l),v]:=by rw[hget_app _ _ _ hlN];exact gN
        have m0:=con_l0 gM
        have m1:=con_l1 gM
        have k0:=it_l0 (hget_new h' x.c)
        have k1:=it_l1 (hget_new h' x.c)
        have k2:=it_l2 (hget_new h' x.c)
        by_cases h0:0<i
        · have e2:decide (0<(i:Int))=true:=decide_eq_true (by omega)
          have e3:decide ((i:Int)=0)=false:=decide_eq_false (by omega)
          have w2:=pred64 (show i<4611686018427387904 by omega) h0
          obtain⟨b1,_⟩:=it_at HN (show i-1<xs.length by omega) hok
          obtain⟨a,b2,b3⟩:=it_key (HN.ext [x.c]) (show i-1<xs.length by omega)
          simp only[sc54r0,sc54r1,sc54r2,sc54r3,sc54r4,sc54r5,sc54r6,sc54r7,sc54r8,sc54r9,sc54d9_x,sc54r10,sc54r11,sc54r12,sc54r13,sc54r14,sc54d14_x,sc54r15,sc54r16,sc54l17,sc54r18,sc54,↓rwS,↓rwX,rwZ,rwT,rwG,Nat.reduceEqDiff,Nat.reduceAdd,reduceCtorEq,Nat.reduceLT,↓rwC,rwD,rwI,Nat.reduceSub,Nat.reduceLeDiff,LW_bt,LW_bf,true_and,t1,t4,e1,e2,e3,n1,hlen,a1,a2,z46,st,hset_end,fp46_0,fp46_1,fp46_2,fp44_0,fp44_1,m0,m1,k0,k1,k2,cC145 ho,cK146 ho (show x.key.length<1000000000 by omega),b1,b2,b3,less_total,neq_b,w1,w2, *]
          repeat' (refine spl (fun hb=>?_) (fun hb=>?_)<;>try simp only[sc54r0,sc54r1,sc54r2,sc54r3,sc54r4,sc54r5,sc54r6,sc54r7,sc54r8,sc54r9,sc54d9_x,sc54r10,sc54r11,sc54r12,sc54r13,sc54r14,sc54d14_x,sc54r15,sc54r16,sc54l17,sc54r18,sc54,↓rwS,↓rwX,rwZ,rwT,rwG,Nat.reduceEqDiff,Nat.reduceAdd,reduceCtorEq,Nat.reduceLT,↓rwC,rwD,rwI,Nat.reduceSub,Nat.reduceLeDiff,LW_bt,LW_bf,true_and,t1,t4,e1,e2,e3,n1,hlen,a1,a2,z46,st,hset_end,fp46_0,fp46_1,fp46_2,fp44_0,fp44_1,m0,m1,k0,k1,k2,cC145 ho,cK146 ho (show x.key.length<1000000000 by omega),b1,b2,b3,less_total,neq_b,w1,w2, *])
          all_goals first
            | (refine ret_boolE (ext_app hext _) (vB_f fun q=>?_);have q:=q.2 i hlt;unfold vAt vI at q;grind)
            | (obtain ⟨E, hE⟩ := hE
               refine⟨_,?_,i+1,E++[x.c],rfl,by omega,fun k hk=>?_,by rw[hE,List.append_assoc];rfl,?_⟩
               · omega
               · by_cases qk:k=i
                 · subst qk;unfold vAt vI;grind
                 · exact hall k (by omega)
               · first|rfl|exact trivial|exact⟨rfl,rfl⟩)
        · have e2:decide (0<(i:Int))=false:=decide_eq_false (by omega)
          have e3:decide ((i:Int)=0)=true:=decide_eq_true (by omega)
          simp only[sc54r0,sc54r1,sc54r2,sc54r3,sc54r4,sc54r5,sc54r6,sc54r7,sc54r8,sc54r9,sc54d9_x,sc54r10,sc54r11,sc54r12,sc54r13,sc54r14,sc54d14_x,sc54r15,sc54r16,sc54l17,sc54r18,sc54,↓rwS,↓rwX,rwZ,rwT,rwG,Nat.reduceEqDiff,Nat.reduceAdd,reduceCtorEq,Nat.reduceLT,↓rwC,rwD,rwI,Nat.reduceSub,Nat.reduceLeDiff,LW_bt,LW_bf,true_and,t1,t4,e1,e2,e3,n1,hlen,a1,a2,z46,st,hset_end,fp46_0,fp46_1,fp46_2,fp44_0,fp44_1,m0,m1,k0,k1,k2,cC145 ho,cK146 ho (show x.key.length<1000000000 by omega),neq_b,w1, *]
          repeat' (refine spl (fun hb=>?_) (fun hb=>?_)<;>try simp only[sc54r0,sc54r1,sc54r2,sc54r3,sc54r4,sc54r5,sc54r6,sc54r7,sc54r8,sc54r9,sc54d9_x,sc54r10,sc54r11,sc54r12,sc54r13,sc54r14,sc54d14_x,sc54r15,sc54r16,sc54l17,sc54r18,sc54,↓rwS,↓rwX,rwZ,rwT,rwG,Nat.reduceEqDiff,Nat.reduceAdd,reduceCtorEq,Nat.reduceLT,↓rwC,rwD,rwI,Nat.reduceSub,Nat.reduceLeDiff,LW_bt,LW_bf,true_and,t1,t4,e1,e2,e3,n1,hlen,a1,a2,z46,st,hset_end,fp46_0,fp46_1,fp46_2,fp44_0,fp44_1,m0,m1,k0,k1,k2,cC145 ho,cK146 ho (show x.key.length<1000000000 by omega),neq_b,w1, *])
          all_goals first
            | (refine ret_boolE (ext_app hext _) (vB_f fun q=>?_);have q:=q.2 i hlt;unfold vAt vI at q;grind)
            | (obtain ⟨E, hE⟩ := hE
               refine⟨_,?_,i+1,E++[x.c],rfl,by omega,fun k hk=>?_,by rw[hE,List.append_assoc];rfl,?_⟩
               · omega
               · by_cases qk:k=i
                 · subst qk;unfold vAt vI;grind
                 · exact hall k (by omega)
               · first|rfl|exact trivial|exact⟨rfl,rfl⟩)
      · have e1:decide ((i:Int)<(xs.length:Int))=false:=decide_eq_false (by omega)
        simp only[sc54r0,sc54r1,sc54r2,sc54r3,sc54r4,sc54r5,sc54r6,sc54r7,sc54r8,sc54r9,sc54d9_x,sc54r10,sc54r11,sc54r12,sc54r13,sc54r14,sc54d14_x,sc54r15,sc54r16,sc54l17,sc54r18,sc54,↓rwS,↓rwX,rwZ,rwT,rwG,Nat.reduceEqDiff,Nat.reduceAdd,reduceCtorEq,Nat.reduceLT,t1,t4,e1,fp44_1,n1,hlen]
        exact ret_boolE hext (vB_t ⟨hpre,fun k hk=>hall k (by omega)⟩)
end
def ConC(h:List Ob) (X:AV) (l:Int) (xs:List Itm):Prop:=∃ v cv,X.cells?=some [.p (.int .i64 l),v]∧Co1 h v cv∧IsS 19 cv (xs.map Itm.V)
theorem cells_two{X a b:AV} (H:X.cells?=some [a,b]):(∃ p q,X=.p (.agg [p,q])∧a=.p p∧b=.p q)∨X=.agg [a,b]:=by
 cases X with
 |p v=>
  left
  have H:some (v.cells.map AV.p)=some [a,b]:=H
  simp only[Option.some.injEq]at H
  cases v with
  |agg cs=>
   have H:cs.map AV.p=[a,b]:=H
   match cs,H with
   | [p,q],H=>
    simp at H
    exact⟨p,q,rfl,H.1.symm,H.2.symm⟩
   | [],H=>simp at H
   | [_],H=>simp at H
   |_::_::_::_,H=>simp at H
  |_=>simp [PV.cells]at H
 |agg cs=>
  right
  have H:some cs=some [a,b]:=H
  simp only[Option.some.injEq]at H
  rw[H]
 |un=>cases H
 |tup l=>cases H
 |_=>simp [AV.cells?]at H
theorem con_mk{h:List Ob} {v:AV} {cv:CV} {l:Int} {xs:List Itm} (h1:Co1 h v cv) (h2:IsS 19 cv (xs.map Itm.V)):ConC h (mkAgg [.p (.int .i64 l),v]) l xs:=
 ⟨v,cv,by cases h1<;>rfl,h1,h2⟩
theorem ConC.o{h X l xs} (H:ConC h X l xs):ConO h X l xs:=by
 obtain⟨v,cv,h0,h1,h2⟩:=H
 exact⟨v,h0,h1.sl' h2⟩
theorem ConC.co{h X l xs} (H:ConC h X l xs):∃ q,Co h X q∧∀ h0 X0,Co h0 X0 q→ConC h0 X0 l xs:=by
 obtain⟨v,cv,h0,h1,h2⟩:=H
 rcases cells_two h0 with⟨p,q,rfl,e1,rfl⟩|rfl
 ·cases e1
  refine⟨.pv (.agg [.int .i64 l,q]),.one (.p _),fun h0 X0 r0=>?_⟩
  cases h1
  cases r0 with
  |one r1=>
   cases r1
   exact⟨.p q,.pv q,rfl,.p q,h2⟩
 ·refine⟨.agg [.pv (.int .i64 l),cv],.agg (.cons (.p _) (.cons h1 .nil)),fun h0 X0 r0=>?_⟩
  cases r0 with
  |one r1=>cases r1
  |agg r1=>
   obtain⟨a,b,rfl,ra,rb⟩:=l2_2 r1
   cases co1_int ra
   exact⟨b,cv,rfl,rb,h2⟩
theorem con_cs{o:Orc} {f:FuncId} {u:AV} {M:List Ob} {X:AV} {l:Int} {xs:List Itm} (H:ConC M X l xs) (hp:pureT u=true)
  (hc:∀ h0 X0,ConC h0 X0 l xs→Ct cx o (.fn f [X0]) h0 (fun e h1=>(∃ ext,h1=h0++ext)∧e=.ret u)):CS cx o (.fn f [X]) M (.ret u) M:=by
 obtain⟨q,hq,hX⟩:=H.co
 refine cs_pure (c:=cx) (o:=o) (f:=f) (ps:=[q]) (.cons hq .nil) hp fun h0 as0 H0=>?_
 obtain⟨X0,rfl,r0⟩:=l2_1 H0
 obtain⟨e,h',hr,h1,h2⟩:=hc h0 X0 (hX h0 X0 r0)
 exact⟨e,h',hr,h2,h1⟩
theorem con_ext{h X l xs} (H:ConC h X l xs) (E:List Ob):ConC (h++E) X l xs:=by
 obtain⟨v,cv,h0,h1,h2⟩:=H
 exact⟨v,cv,h0,h1.ext E,h2⟩
section
variable {o:Orc} (ho:FreeT o)
include ho
theorem cs52{M X l xs} (H:ConC M X l xs) (hok:∀ x∈xs,x.ok) (hn:xs.length<100000) (hk:∀ x∈xs,x.key.length<1000000):CS cx o (.fn 52 [X]) M (.ret (.p (.bool (vB l xs)))) M:=
 con_cs H rfl fun h0 X0 H0=>valid52 ho H0.o hok hn hk
end
theorem bytesPV_app(a b:List UInt8):bytesPV (a++b)=bytesPV a++bytesPV b:=List.map_append ..
theorem bytesPV_len(a:List UInt8):(bytesPV a).length=a.length:=List.length_map ..
structure BA (P:Nat→Prop) (G h':List Ob) (b:AV) (s:List UInt8):Prop where
 keep:∀ j,P j→j<h'.length∧hget h' j=hget G j
 own:∃ i g ex,b=.sl i g 1 0 s.length∧¬P i∧hget h' i=.row 5 1 (bytesPV s) ex g
theorem BA.app{P G h' b s} {o:Orc} (A:BA P G h' b s) (E:List Ob) {x:AV} {u:List UInt8} (hx:elems? (h'++E) x=some (bytesPV u)) (hsx:szIsB 1 x=true) (hl:s.length+u.length<100000000) :
  ∃ b1 h1,BA P G h1 b1 (s++u)∧h'.length≤h1.length∧∀ (op:Op) (dst:Option Tmp) (t:Tm) (d:List AD) (r:Option RM) (k:KP) (Q:Post),opW cx o none op dst t (h'++E) d r (append? cx (h'++E) 5 b x) k Q=k (put dst b1 t) h1 d r:=by
 obtain⟨i,g,ex,rfl,hP,hr⟩:=A.own
 have hi:=hget_flat_lt (h:=h') (i:=i) (by rw[hr];rfl)
 have hr':hget (h'++E) i=.row 5 1 (bytesPV s) ex g:=(hget_appL E i hi).trans hr
 obtain⟨v',h1,a1,⟨j,g',rfl,hj⟩,a3,a4,a5,a6⟩:=app_any (c:=cx) (o:=o) (rd:=none) hr' s5 (by decide) hx hsx (room_le room5 (by rw[bytesPV_len,bytesPV_len];omega))
 rw[bytesPV_len]at a6
 rw[← bytesPV_app]at a1 a6
 rw[List.length_append]at a3 hj
 refine⟨_,h1,⟨fun k hk=>?_,j,g',?_⟩,by omega,a6⟩
 ·obtain⟨k1,k2⟩:=A.keep k hk
  refine⟨by omega,?_⟩
  rw[a4 k (by rw[List.length_append];omega) (fun q=>hP (q ▸ hk)),hget_appL E k k1,k2]
 ·obtain⟨ex',hr2,_⟩:=sl_own a1
  refine⟨ex',by rw[bytesPV_len],fun q=>?_,hr2⟩
  rcases hj with rfl|hj
  ·exact hP q
  ·have:=(A.keep j q).1;omega
theorem BA.more{P G h' b s} (A:BA P G h' b s) (o:Ob):BA (fun j=>P j∨j=h'.length) (h'++[o]) (h'++[o]) b s:=by
 obtain⟨i,g,ex,hb,hP,hr⟩:=A.own
 have hi:=hget_flat_lt (h:=h') (i:=i) (by rw[hr];rfl)
 refine⟨fun j hj=>⟨?_,rfl⟩,i,g,ex,hb,?_,(hget_app _ _ _ hi).trans hr⟩
 ·rw[List.length_append,List.length_singleton]
  rcases hj with hj|rfl
  ·have:=(A.keep j hj).1;omega
  ·omega
 ·rintro(q|q)
  ·exact hP q
  ·omega
theorem BA.less{P Q:Nat→Prop} {G G' h' b s} (A:BA P G h' b s) (h1:∀ j,Q j→P j) (h2:∀ j,Q j→hget G j=hget G' j):BA Q G' h' b s:=by
 obtain⟨i,g,ex,hb,hP,hr⟩:=A.own
 exact⟨fun j hj=>⟨(A.keep j (h1 j hj)).1,(A.keep j (h1 j hj)).2.trans (h2 j hj)⟩,i,g,ex,hb,fun q=>hP (h1 i q),hr⟩
theorem BA.get{P G h' b s j o} (A:BA P G h' b s) (hj:P j) (hg:hget G j=o):hget h' j=o:=(A.keep j hj).2.trans hg
theorem BA.conv{P G h' b s} (A:BA P G h' b s):conv3 cx h' 117 9 b=.w (.p (.str s)):=by
 obtain⟨i,g,ex,rfl,hP,hr⟩:=A.own
 refine conv_bytes u117 u5 u9 rfl (fun q h=>by cases h) rfl ?_
 have:=elems_sl1 (h:=h') (i:=i) (g:=g) (e:=5) (sz:=1) (xs:=bytesPV s) (ex:=ex) hr
 rwa[bytesPV_len]at this
theorem BA.begin{P:Nat→Prop} {G:List Ob} {o:Orc} (E:List Ob) (hP:∀ j,P j→j<G.length) {x:AV} {u:List UInt8} (hx:elems? (G++E) x=some (bytesPV u)) (hsx:szIsB 1 x=true) (hu:u ≠ []) (hl:u.length<100000000) :
  ∃ b1 h1,BA P G h1 b1 u∧∀ (op:Op) (dst:Option Tmp) (t:Tm) (d:List AD) (r:Option RM) (k:KP) (Q:Post),opW cx o none op dst t (G++E) d r (append? cx (G++E) 5 (.p .nils) x) k Q=k (put dst b1 t) h1 d r:=by
 have hn:bytesPV u ≠ []:=fun q=>hu (List.map_eq_nil_iff.1 q)
 have:=append_nil0 (c:=cx) (h:=G++E) (e:=5) (sz:=1) s5 rfl hx hsx hn (room_le room5 (by rw[bytesPV_len];omega))
 refine⟨.sl (G++E).length 0 1 0 u.length,(G++E)++[.row 5 1 (bytesPV u) false 0],⟨fun j hj=>?_,_,_,_,rfl,fun q=>?_,hget_new _ _⟩,fun op dst t d r k Q=>?_⟩
 ·have:=hP j hj
  rw[List.length_append,List.length_append,List.append_assoc]
  exact⟨by omega,hget_appL _ _ this⟩
 ·have:=hP _ q
  rw[List.length_append]at this;omega
 ·rw[this,bytesPV_len];rfl
theorem allP_pv:∀ l:List PV,allP (l.map AV.p)=some l:=by
 intro l
 induction l with
 |nil=>rfl
 |cons a l ih=>simp only[List.map_cons,allP,ih]
theorem asl_el{h:List Ob} {i:Nat} {x:Itm} (hi:hget h i=x.c) (hx:x.ok):elems? h (.asl i 3 16 1)=some (bytesPV x.sum):=by
 show elemsAsl h i 3 16 1=_
 unfold elemsAsl
 rw[hi]
 show cond (Nat.beq 1 1) (match sub? (x.cs.map AV.p) 3 16 with|some m=>allP m|none=>none) none=_
 have hl:=Itm.len hx
 unfold sub?
 rw[show Nat.ble (3+16) (x.cs.map AV.p).length=true from Nat.ble_eq_true_of_le (by rw[List.length_map,hl];decide)]
 show allP (((bytesPV x.sum).map AV.p).take 16)=_
 rw[List.take_of_length_le (by rw[List.length_map,bytesPV_len];unfold Itm.ok at hx;omega),allP_pv]
theorem sl27(h:List Ob) (i:Nat):sliceW cx h 27 (.ptr i 3) none none=.w (.asl i 3 16 1):=by
 show sliceW cx h 27 (.ptr i 3) none none=_
 unfold sliceW
 rfl
theorem by1{h:List Ob} (n:Nat):elems? (h++[.row 5 1 [.int .u8 ((UInt8.ofNat n).toNat:Int)] true 0]) (.sl h.length 0 1 0 1)=some (bytesPV [UInt8.ofNat n]):=
 elems_sl1 (xs:=[.int .u8 ((UInt8.ofNat n).toNat:Int)]) (hget_new _ _)
theorem cvb{hh:List Ob} {n:Nat}:conv3 cx hh 3 5 (.p (.int .i64 (n:Int)))=.w (.p (.int .u8 ((UInt8.ofNat n).toNat:Int))):=by
 rw[conv_int u3 u5,wrapU8_eq,UInt8.toNat_ofNat']
 congr 3
theorem bs1{h:List Ob} (a:UInt8):buildSlice? cx h 117 1 [(0,.p (.int .u8 (a.toNat:Int)))]=.wh (.sl h.length 0 1 0 1) (h++[.row 5 1 [.int .u8 (a.toNat:Int)] true 0]):=build1 u117 s5 a5 z5 rfl rfl rfl
theorem cvBy{h:List Ob} {s:List UInt8}:conv3 cx h 9 117 (.p (.str s))=.wn (.sl h.length 0 1 0 s.length) (.row 5 1 (bytesPV s) false 0):=by
 unfold conv3
 simp only[floatOf,u9,u117]
 unfold conv
 simp only[u9]
 unfold convP
 simp only[u117]
 unfold convH
 simp only[u9,u117,isByteT,u5]
 show Ai.newRow h 5 1 (bytesPV s) false s.length=_
 unfold Ai.newRow
 simp only[forceN_eq,lnf_eq]
theorem BA.row{P:Nat→Prop} {G:List Ob} {s:List UInt8} (hP:∀ j,P j→j<G.length):BA P G (G++[.row 5 1 (bytesPV s) false 0]) (.sl G.length 0 1 0 s.length) s:=
 ⟨fun j hj=>⟨by rw[List.length_append];have:=hP j hj;omega,hget_appL _ _ (hP j hj)⟩,_,_,_,rfl,fun q=>by have:=hP _ q;omega,hget_new _ _⟩
theorem be_succ:∀ (k n:Nat),be n (k+1)=UInt8.ofNat (n / 256 ^ k)::be n k:=by
 intro k
 induction k with
 |zero=>intro n;simp [be]
 |succ k ih=>
  intro n
  show be (n / 256) (k+1)++[UInt8.ofNat n]=_
  rw[ih (n / 256),Nat.div_div_eq_div_mul,Nat.pow_succ,Nat.mul_comm (256 ^ k) 256]
  rfl
theorem byteOf_nat(m:Nat):byteOf (m:Int)=UInt8.ofNat m:=by
 unfold byteOf
 rw[Int.tmod_eq_emod_of_nonneg (by omega),wrapU8_eq]
 apply UInt8.toNat_inj.1
 rw[UInt8.toNat_ofNat',UInt8.toNat_ofNat']
 omega
theorem numI_be{n:Nat} (hn:n<4611686018427387904):∀ k,numI (n:Int) k=(((n / 256 ^ k:Nat):Int),be n k):=by
 intro k
 induction k with
 |zero=>simp [numI,be]
 |succ k ih=>
  have hd:n / 256 ^ k<4611686018427387904:=Nat.lt_of_le_of_lt (Nat.div_le_self _ _) hn
  unfold numI
  rw[ih]
  simp only
  have e1:IntKind.wrap .i64 (((n / 256 ^ k:Nat):Int).tdiv 256)=((n / 256 ^ (k+1):Nat):Int):=by
   rw[Nat.pow_succ,← Nat.div_div_eq_div_mul]
   generalize n / 256 ^ k=m at hd
   rw[Int.tdiv_eq_ediv_of_nonneg (by omega)]
   have:((m:Nat):Int) / 256=((m / 256:Nat):Int):=by omega
   rw[this,wrap64_id (by omega) (by omega)]
  have e2:byteOf ((n / 256 ^ k:Nat):Int)=UInt8.ofNat (n / 256 ^ k):=byteOf_nat _
  rw[e1,e2,be_succ]
theorem numS_be{n:Nat} (hn:n<4611686018427387904) (w:Nat):numS (n:Int) w=be n w:=by unfold numS;rw[numI_be hn]
theorem shr_8{c:Ctx} {ty:TypeId} {q:Bool} {a:Int}:bin3 .shr c ty q (.p (.int .i64 a)) (.p (.int .u64 8))=.w (.p (.int .i64 (a.fdiv 256))):=by
 show cond (ltI 8 0) .no (resI .i64 (a.fdiv (2 ^ (min (8:Int).toNat 64))))=_
 rw[ltI_eq,decide_eq_false (by omega)]
 exact resI_eq _ _
section
variable {o:Orc} (ho:FreeT o)
include ho
theorem number53{n:Nat} (hn:n<4611686018427387904) {w:Nat} (hw:w<1000):Ct cx o (.fn 53 [.p (.int .i64 (n:Int)),.p (.int .i64 (w:Int))]) [] (fun e _=>e=.ret (.p (.str (be n w)))):=by
 refine ct53 (ho _ _ _ (by decide)) rfl ?_
 have mk:=make_bytes (h:=[]) (n:=w) (by omega)
 have w0:IntKind.wrap .i64 ((w:Int)-1)=(w:Int)-1:=wrap64_id (by omega) (by omega)
 simp only[sc53r0,sc53r1,sc53r2,sc53r3,sc53r4,sc53r5,sc53r6,sc53r8,sc53,↓rwS,↓rwX,rwZ,rwT,rwG,Nat.reduceEqDiff,Nat.reduceAdd,reduceCtorEq,Nat.reduceLT,mk,w0,List.nil_append,List.length_nil]
 refine xC_loop (fun m t h' d r=>∃ k:Nat,m=w-k∧k≤w ∧ [Ob.row 5 1 (numR n w k) true 0]=h'∧d=[]∧r=none∧t.get 0=.p (.int .i64 ((n / 256 ^ k:Nat):Int))∧t.get 5=.sl 0 0 1 0 w∧t.get 6=.p (.int .i64 ((w:Int)-1-(k:Int)))) w ?_ ?_
 ·refine⟨0,rfl,by omega,by unfold numR numI bytesPV;simp,rfl,rfl,?_⟩
  simp only[↓rwA,rwB,rwG,Nat.reduceEqDiff,Nat.reduceAdd,reduceCtorEq,Nat.reduceLT,true_and,Nat.pow_zero,Nat.div_one]
  simp
 ·rintro m t h' d r ⟨k,rfl,hk,rfl,rfl,rfl,t0,t5,t6⟩
  by_cases hlt:k<w
  ·have e1:decide (0≤((w-1-k:Nat):Int))=true:=decide_eq_true (by omega)
   have e2:(w:Int)-1-(k:Int)=((w-1-k:Nat):Int):=by omega
   have ix:indexAddr? cx 117 (.sl 0 0 1 0 w) (.p (.int .i64 ((w-1-k:Nat):Int)))=some (.el 0 0 1 (w-1-k) 0):=by
    have hS:Sl [Ob.row 5 1 (numR n w k) true 0] 1 (.sl 0 0 1 0 w) (numR n w k):=by
     refine .sl (xs:=numR n w k) rfl ?_
     unfold sub?
     rw[numR_len hk,Nat.zero_add,Nat.ble_eq_true_of_le (Nat.le_refl _),List.drop_zero,List.take_of_length_le (by rw[numR_len hk];exact Nat.le_refl _)];rfl
    rw[hS.at u117 s5 (by omega) (by rw[numR_len hk];omega),Int.toNat_natCast]
    show some (AV.el 0 0 1 (0+(w-1-k)) 0)=_
    rw[Nat.zero_add]
   have hb:(numI (n:Int) k).1=((n / 256 ^ k:Nat):Int):=by rw[numI_be hn]
   have eb:(byteOf ((n / 256 ^ k:Nat):Int))=UInt8.ofNat (n / 256 ^ k):=byteOf_nat _
   have st:store? cx [Ob.row 5 1 (numR n w k) true 0] 5 (.el 0 0 1 (w-1-k) 0) (.p (.int .u8 ((UInt8.ofNat (n / 256 ^ k)).toNat:Int)))=.wh undefA [Ob.row 5 1 (numR n w (k+1)) true 0]:=by
    have:=numR_set (n:=(n:Int)) hlt
    rw[hb,eb]at this
    rw[store_el s5 rfl (numR_at hlt) (fun l q=>by cases q) rfl rfl,this];rfl
   have ed:((n / 256 ^ k:Nat):Int).fdiv 256=((n / 256 ^ (k+1):Nat):Int):=by
    rw[Int.fdiv_eq_ediv_of_nonneg _ (by decide),Nat.pow_succ,← Nat.div_div_eq_div_mul]
    generalize n / 256 ^ k=m
    omega
   have w1:IntKind.wrap .i64 (((w-1-k:Nat):Int)-1)=((w-1-k:Nat):Int)-1:=wrap64_id (by omega) (by omega)
   simp only[sc53r0,sc53r1,sc53r2,sc53r3,sc53r4,sc53r5,sc53r6,sc53l7,sc53r8,sc53,↓rwC,rwD,rwI,Nat.reduceSub,Nat.reduceLeDiff,↓rwS,↓rwX,rwZ,rwT,rwG,Nat.reduceEqDiff,Nat.reduceAdd,reduceCtorEq,Nat.reduceLT,t0,t5,t6,e1,e2,ix,st,cvb,shr_8,ed,w1,true_and]
   refine⟨_,?_,k+1,rfl,by omega,rfl,?_⟩
   ·omega
   ·refine⟨rfl,?_⟩;congr 2;omega
  ·have e1:decide (0≤(w:Int)-1-(k:Int))=false:=decide_eq_false (by omega)
   obtain rfl:k=w:=by omega
   have cb:∀ hh:List Ob,hh=[Ob.row 5 1 (numR n k k) true 0]→conv3 cx hh 117 9 (.sl 0 0 1 0 k)=.w (.p (.str (be n k))):=fun hh q=>by
    subst q
    refine conv_bytes u117 u5 u9 rfl (fun q h=>by cases h) rfl ?_
    have hl:=numR_len (n:=n) (w:=k) (k:=k) (Nat.le_refl _)
    have:=elems_sl1 (h:=[Ob.row 5 1 (numR n k k) true 0]) (i:=0) (g:=0) (e:=5) (sz:=1) (xs:=numR n k k) (ex:=true) rfl
    rw[hl]at this
    rw[this]
    unfold numR;rw[numI_be hn];simp
   simp only[sc53r0,sc53r1,sc53r2,sc53r3,sc53r4,sc53r5,sc53r6,sc53l7,sc53r8,sc53,↓rwS,↓rwX,rwZ,rwT,rwG,Nat.reduceEqDiff,Nat.reduceAdd,reduceCtorEq,Nat.reduceLT,t0,t5,t6,e1,cb _ rfl]
theorem call53n{n w:Nat} (hn:n<4611686018427387904) (hw:w<1000) {h dst t d r k Q}:callW cx o dst t h d r (some (.fn 53 [.p (.int .i64 (n:Int)),.p (.int .i64 (w:Int))])) k Q=k (put dst (.p (.str (be n w))) t) h d r:=callW_ret ext53 (cs_p (f:=53) (ps:=[.int .i64 n,.int .i64 w]) rfl (number53 ho hn hw))
theorem call147n{n w:Nat} (hn:n<4611686018427387904) (hw:w<1000) {h dst t d r k Q}:callW cx o dst t h d r (some (.fn 147 [.p (.int .i64 (n:Int)),.p (.int .i64 (w:Int))])) k Q=k (put dst (.p (.str (be n w))) t) h d r:=by
 have:=num147 ho (n:Int) hw
 rw[numS_be hn]at this
 exact callW_ret ext147 (cs_p (f:=147) (ps:=[.int .i64 n,.int .i64 w]) rfl this)
end
theorem bsL1{h:List Ob}:buildSlice? cx h 117 1 [(0,.p (.int .u8 1))]=.wh (.sl h.length 0 1 0 1) (h++[.row 5 1 [.int .u8 1] true 0]):=build1 u117 s5 a5 z5 rfl rfl rfl
theorem bsL0{h:List Ob}:buildSlice? cx h 117 1 [(0,.p (.int .u8 0))]=.wh (.sl h.length 0 1 0 1) (h++[.row 5 1 [.int .u8 0] true 0]):=build1 u117 s5 a5 z5 rfl rfl rfl
theorem itsB_app(l:Int):∀ (a b:List Itm),itsB l (a++b)=itsB l a++itsB l b:=by
 intro a
 induction a with
 |nil=>intro b;rfl
 |cons x a ih=>intro b;simp [itsB,ih]
theorem itsB_take{l:Int} {xs:List Itm} {i:Nat} (hi:i<xs.length):itsB l (xs.take (i+1))=itsB l (xs.take i)++itB l (xs.getD i Itm.z):=by
 rw[List.take_add_one,List.getElem?_eq_getElem hi,itsB_app]
 simp [List.getD,hi,itsB]
def cBi(l:Int) (xs:List Itm) (i:Nat):List UInt8:=be l.toNat 1++(be xs.length 2++itsB l (xs.take i))
theorem cBi_all(l:Int) (xs:List Itm):cBi l xs xs.length=cB l xs:=by unfold cBi cB;rw[List.take_length]
theorem cBi_succ{l:Int} {xs:List Itm} {i:Nat} (hi:i<xs.length):cBi l xs (i+1)=cBi l xs i++itB l (xs.getD i Itm.z):=by
 unfold cBi;rw[itsB_take hi];simp
theorem itB_len{l:Int} {x:Itm} (hx:x.ok) (hk:x.key.length<1000):(itB l x).length<1100:=by
 unfold itB
 unfold Itm.ok at hx
 simp only[List.length_append,be_length]
 have h1:(if l=0 then [if x.tree=true then(1:UInt8)else 0]else []).length≤1:=by split<;>simp
 have h2:(if l > 0∨x.tree=true then be x.count.toNat 4 else []).length≤4:=by split<;>simp [be_length]
 omega
theorem cBi_len{l:Int} {xs:List Itm} (hok:∀ x∈xs,x.ok) (hk:∀ x∈xs,x.key.length<1000):∀ i,i≤xs.length→(cBi l xs i).length≤3+1100*i:=by
 intro i
 induction i with
 |zero=>intro _;unfold cBi;simp [be_length,itsB]
 |succ i ih=>
  intro hi
  rw[cBi_succ (by omega),List.length_append]
  have:=itB_len (l:=l) (hok _ (it_mem (show i<xs.length by omega))) (hk _ (it_mem (show i<xs.length by omega)))
  have:=ih (by omega)
  omega
section
variable {o:Orc} (ho:FreeT o)
include ho
theorem c53_2{n:Nat} (hn:n<4611686018427387904) {h dst t d r k Q}:callW cx o dst t h d r (some (.fn 53 [.p (.int .i64 (n:Int)),.p (.int .i64 2)])) k Q=k (put dst (.p (.str (be n 2))) t) h d r:=call53n ho (w:=2) hn (by decide)
theorem c53_4{n:Nat} (hn:n<4611686018427387904) {h dst t d r k Q}:callW cx o dst t h d r (some (.fn 53 [.p (.int .i64 (n:Int)),.p (.int .i64 4)])) k Q=k (put dst (.p (.str (be n 4))) t) h d r:=call53n ho (w:=4) hn (by decide)
noncomputable def byR(l:Int) (xs:List Itm):AV:=.tup [.p (.str (if vB l xs=true then cB l xs else [])),.p (.int .i64 (if vB l xs=true then 0 else 2))]
set_option maxHeartbeats 4000000 in
theorem bytes18{h:List Ob} {X:AV} {l:Int} {xs:List Itm} (H:ConC h X l xs) (hok:∀ x∈xs,x.ok) (hn:xs.length<20000) (hk:∀ x∈xs,x.key.length<1000) :
  Ct cx o (.fn 18 [X]) h (fun e h1=>(∃ ext,h1=h++ext)∧e=.ret (byR l xs)):=by
 refine ct18 (ho _ _ _ (by decide)) rfl ?_
 obtain⟨v,cv,hX,hv,hs⟩:=H
 have hbox:∀ hh:List Ob,boxW hh 44 X=.wn (.ptr hh.length 0) (.cells 44 [.p (.int .i64 l),v]):=fun hh=>con_box (h:=h) hX
 have g0:=hget_new h (.cells 44 [.p (.int .i64 l),v])
 have ldc:load? cx (h++[.cells 44 [.p (.int .i64 l),v]]) 44 (.ptr h.length 0)=some (mkAgg [.p (.int .i64 l),v]):=load_whole a44 s44 g0 rfl
 have c52:=cs52 ho (con_mk (hv.ext [.cells 44 [.p (.int .i64 l),v]]) hs) hok (by omega) (fun x hx=>by have:=hk x hx;omega) (l:=l)
 cases hvb:vB l xs with
 |false=>
  rw[hvb]at c52
  simp only[sc18r0,sc18r1,sc18r2,sc18r3,sc18r4,sc18r5,sc18r6,sc18r7,sc18r8,sc18r9,sc18r10,sc18r11,sc18r12,sc18r13,sc18r14,sc18r15,sc18r16,sc18r17,sc18r18,sc18r19,sc18r21,sc18,↓rwS,↓rwX,rwZ,rwT,rwG,Nat.reduceEqDiff,Nat.reduceAdd,reduceCtorEq,Nat.reduceLT,hbox,ldc,callW_ret ext52 c52,Bool.not_false]
  refine⟨⟨_,rfl⟩,?_⟩
  unfold byR
  rw[hvb];rfl
 |true=>
  rw[hvb]at c52
  have hvp:VP l xs:=by
   by_cases q:VP l xs
   ·exact q
   ·rw[← vB_f q]at hvb;cases hvb
  obtain⟨⟨v0,v1,v2,v3,v4⟩,hvi⟩:=hvp
  obtain⟨n,rfl⟩:∃ n:Nat,l=n:=⟨l.toNat,by omega⟩
  have m0:=con_l0 g0
  have m1:=con_l1 g0
  obtain⟨b1,M1,A1,q1⟩:=BA.begin (P:=fun j=>j<h.length+1) (G:=h++[.cells 44 [.p (.int .i64 (n:Int)),v]]) (o:=o) [.row 5 1 [.int .u8 ((UInt8.ofNat n).toNat:Int)] true 0] (fun j hj=>by rw[List.length_append];exact hj) (by1 n) rfl (by simp) (by simp)
  have k1:=A1.get (j:=h.length) (by omega) g0
  have m2:=con_l1 k1
  obtain⟨b2,M2,A2,_,q2⟩:=A1.app (o:=o) [] (x:=.p (.str (be xs.length 2))) (u:=be xs.length 2) rfl rfl (by simp [be_length])
  rw[List.append_nil]at q2
  have k2:=A2.get (j:=h.length) (by omega) g0
  have m3:=con_l1 k2
  have Sk:∀ {M b s},BA (fun j=>j<h.length+1) (h++[.cells 44 [.p (.int .i64 (n:Int)),v]]) M b s→Co1 M v cv:=fun {M b s} A=>hv.keep fun j hj=>by
   have:=ids1_lt hv j hj
   rw[(A.keep j (by omega)).2,hget_appL _ _ this]
  have len1:=((Sk A1).sl' hs).len u42
  have len2:=((Sk A2).sl' hs).len u42
  rw[List.length_map]at len1 len2
  simp only[sc18r0,sc18r1,sc18r2,sc18r3,sc18r4,sc18r5,sc18r6,sc18r7,sc18r8,sc18r9,sc18r10,sc18r11,sc18r12,sc18r13,sc18r14,sc18r15,sc18r16,sc18r17,sc18r18,sc18r19,sc18r21,sc18,↓rwS,↓rwX,rwZ,rwT,rwG,Nat.reduceEqDiff,Nat.reduceAdd,reduceCtorEq,Nat.reduceLT,hbox,ldc,callW_ret ext52 c52,Bool.not_true,fp44_0,fp44_1,m0,m1,cvb,bs1,appW_sl u117 u117,q1,m2,len1,c53_2 ho (show xs.length<4611686018427387904 by omega),appW_str u117 u9,q2,m3,len2]
  have hcb:cBi n xs 0=[UInt8.ofNat n]++be xs.length 2:=by
   unfold cBi;rw[Int.toNat_natCast];simp [be_one,itsB]
  refine xC_loop (fun m t h' d r=>∃ (i:Nat) (b:AV),m=xs.length-i∧i≤xs.length∧BA (fun j=>j<h.length+1) (h++[.cells 44 [.p (.int .i64 (n:Int)),v]]) h' b (cBi n xs i)∧d=[]∧r=none∧t.get 1=.ptr h.length 0∧t.get 4=b∧t.get 24=v∧t.get 25=.p (.int .i64 (xs.length:Int))∧t.get 26=.p (.int .i64 (i:Int))) xs.length ?_ ?_
  ·refine⟨0,b2,rfl,by omega,by rw[hcb];exact A2,rfl,rfl,?_⟩
   simp only[↓rwA,rwB,rwG,Nat.reduceEqDiff,Nat.reduceAdd,reduceCtorEq,Nat.reduceLT,true_and]
   first|rfl|exact trivial
  ·clear q1 q2 m2 m3 len1 len2 k1 k2 A1 A2
   rintro m t h' d r ⟨i,b,rfl,hi,A,rfl,rfl,t1,t4,t24,t25,t26⟩
   by_cases hlt:i<xs.length
   ·have e1:decide ((i:Int)<(xs.length:Int))=true:=decide_eq_true (by omega)
    have w1:=one63 (show i+1<9223372036854775808 by omega)
    have HN:=(Sk A).sl' hs
    obtain⟨a1,a2⟩:=it_at HN hlt hok
    have hx:=hok _ (it_mem hlt)
    have hkx:=hk _ (it_mem hlt)
    have hcl:=cBi_len hok hk (l:=n) i (by omega)
    have hvx:=(hvi i hlt).1
    have hsu:=cBi_succ (l:=(n:Int)) hlt
    generalize hxx:xs.getD i Itm.z=x at *
    obtain⟨c,hc⟩:∃ c:Nat,x.count=c:=⟨x.count.toNat,by
     unfold vI at hvx
     split at hvx<;>simp at hvx<;>omega⟩
    have hcm:c<4611686018427387904:=by
     unfold vI at hvx
     split at hvx<;>simp at hvx<;>omega
    have st:=it_st (x:=x) (hget_new h' (.cells 46 (Itm.z.V.cells.map .p))) hx zc_len
    have A1:=A.more x.c
    have hgx:=hget_new h' x.c
    have hgc:hget (h'++[x.c]) h.length=.cells 44 [.p (.int .i64 (n:Int)),v]:=by
     obtain⟨z1,z2⟩:=A.keep h.length (by omega)
     rw[hget_app _ _ _ z1,z2];exact g0
    generalize hMM:h'++[x.c]=M1 at *
    have lk0:=it_l0 hgx
    obtain⟨b2,M2,A2,_,q1⟩:=A1.app (o:=o) [.row 5 1 [.int .u8 ((UInt8.ofNat x.key.length).toNat:Int)] true 0] (x:=.sl M1.length 0 1 0 1) (u:=[UInt8.ofNat x.key.length]) (by1 _) rfl (by simp;omega)
    have lk1:=it_l0 (A2.get (j:=h'.length) (.inr rfl) hgx)
    obtain⟨b3,M3,A3,_,q2⟩:=A2.app (o:=o) [] (x:=.p (.str x.key)) (u:=x.key) rfl rfl (by simp;omega)
    rw[List.append_nil]at q2
    have gx3:=A3.get (j:=h'.length) (.inr rfl) hgx
    have gc3:=A3.get (j:=h.length) (.inl (by omega)) hgc
    have l30:=con_l0 gc3
    have l31:=it_l1 gx3
    by_cases h0:n=0
    ·have e2:decide ((n:Int)=0)=true:=decide_eq_true (by omega)
     have e3:decide (0<(n:Int))=false:=decide_eq_false (by omega)
     cases htr:x.tree with
     |true=>
      rw[htr]at l31
      obtain⟨b4,M4,A4,_,q3⟩:=A3.app (o:=o) [.row 5 1 [.int .u8 1] true 0] (x:=.sl M3.length 0 1 0 1) (u:=[1]) (elems_sl1 (xs:=[.int .u8 1]) (hget_new _ _)) rfl (by simp;omega)
      have gx4:=A4.get (j:=h'.length) (.inr rfl) hgx
      have gc4:=A4.get (j:=h.length) (.inl (by omega)) hgc
      have l40:=con_l0 gc4
      have l41:=it_l1 gx4
      have l42:=it_l2 gx4
      rw[hc]at l42
      rw[htr]at l41
      obtain⟨b5,M5,A5,_,q4⟩:=A4.app (o:=o) [] (x:=.p (.str (be c 4))) (u:=be c 4) rfl rfl (by simp [be_length];omega)
      rw[List.append_nil]at q4
      have gx5:=A5.get (j:=h'.length) (.inr rfl) hgx
      obtain⟨b6,M6,A6,_,q5⟩:=A5.app (o:=o) [] (x:=.asl h'.length 3 16 1) (u:=x.sum) (by rw[List.append_nil];exact asl_el gx5 hx) rfl (by unfold Itm.ok at hx;simp [be_length];omega)
      rw[List.append_nil]at q5
      simp only[sc18r0,sc18r1,sc18r2,sc18r3,sc18r4,sc18r5,sc18r6,sc18r7,sc18r8,sc18r9,sc18r10,sc18r11,sc18r12,sc18r13,sc18r14,sc18r15,sc18r16,sc18r17,sc18r18,sc18r19,sc18l20,sc18r21,sc18,↓rwS,↓rwX,rwZ,rwT,rwG,Nat.reduceEqDiff,Nat.reduceAdd,reduceCtorEq,Nat.reduceLT,t1,t4,t24,t25,t26,e1,e2,e3,a1,a2,z46,st,hset_end,hMM,fp46_0,fp46_1,fp46_2,fp46_3,fp44_0,lk0,lk1,l30,l31,l40,l41,l42,cvb,bs1,bsL1,appW_sl u117 u117,appW_str u117 u9,q1,q2,q3,q4,q5,sl27,c53_4 ho hcm,w1]
      refine⟨_,?_,i+1,b6,rfl,by omega,?_,trivial,trivial,?_⟩
      ·omega
      ·have hfin:cBi n xs i++[UInt8.ofNat x.key.length]++x.key++[1]++be c 4++x.sum=cBi n xs (i+1):=by
        rw[hsu]
        unfold itB
        rw[if_pos (show(n:Int)=0 by omega),if_pos htr,if_pos (show(n:Int) > 0∨x.tree=true from .inr htr),hc,Int.toNat_natCast]
        simp only[be_one,List.append_assoc,List.cons_append,List.nil_append]
       rw[← hfin]
       exact A6.less (fun j hj=>.inl hj) fun j hj=>by
        obtain⟨z1,z2⟩:=A.keep j hj
        rw[← hMM,hget_app _ _ _ z1,z2]
      ·first|rfl|exact trivial|exact⟨trivial,rfl⟩|(simp;done)
     |false=>
      rw[htr]at l31
      obtain⟨b4,M4,A4,_,q3⟩:=A3.app (o:=o) [.row 5 1 [.int .u8 0] true 0] (x:=.sl M3.length 0 1 0 1) (u:=[0]) (elems_sl1 (xs:=[.int .u8 0]) (hget_new _ _)) rfl (by simp;omega)
      have gx4:=A4.get (j:=h'.length) (.inr rfl) hgx
      have gc4:=A4.get (j:=h.length) (.inl (by omega)) hgc
      have l40:=con_l0 gc4
      have l41:=it_l1 gx4
      rw[htr]at l41
      obtain⟨b6,M6,A6,_,q5⟩:=A4.app (o:=o) [] (x:=.asl h'.length 3 16 1) (u:=x.sum) (by rw[List.append_nil];exact asl_el gx4 hx) rfl (by unfold Itm.ok at hx;simp [be_length];omega)
      rw[List.append_nil]at q5
      simp only[sc18r0,sc18r1,sc18r2,sc18r3,sc18r4,sc18r5,sc18r6,sc18r7,sc18r8,sc18r9,sc18r10,sc18r11,sc18r12,sc18r13,sc18r14,sc18r15,sc18r16,sc18r17,sc18r18,sc18r19,sc18l20,sc18r21,sc18,↓rwS,↓rwX,rwZ,rwT,rwG,Nat.reduceEqDiff,Nat.reduceAdd,reduceCtorEq,Nat.reduceLT,t1,t4,t24,t25,t26,e1,e2,e3,a1,a2,z46,st,hset_end,hMM,fp46_0,fp46_1,fp46_2,fp46_3,fp44_0,lk0,lk1,l30,l31,l40,l41,cvb,bs1,bsL0,appW_sl u117 u117,appW_str u117 u9,q1,q2,q3,q5,sl27,w1]
      refine⟨_,?_,i+1,b6,rfl,by omega,?_,trivial,trivial,?_⟩
      ·omega
      ·have hfin:cBi n xs i++[UInt8.ofNat x.key.length]++x.key++[0]++x.sum=cBi n xs (i+1):=by
        rw[hsu]
        unfold itB
        rw[if_pos (show(n:Int)=0 by omega),if_neg (show ¬x.tree=true by rw[htr];decide),if_neg (show ¬((n:Int) > 0∨x.tree=true) by rw[htr];simp;omega)]
        simp only[be_one,List.append_assoc,List.cons_append,List.nil_append]
       rw[← hfin]
       exact A6.less (fun j hj=>.inl hj) fun j hj=>by
        obtain⟨z1,z2⟩:=A.keep j hj
        rw[← hMM,hget_app _ _ _ z1,z2]
      ·first|rfl|exact trivial|exact⟨trivial,rfl⟩|(simp;done)
    ·have e2:decide ((n:Int)=0)=false:=decide_eq_false (by omega)
     have e3:decide (0<(n:Int))=true:=decide_eq_true (by omega)
     have l42:=it_l2 gx3
     rw[hc]at l42
     obtain⟨b5,M5,A5,_,q4⟩:=A3.app (o:=o) [] (x:=.p (.str (be c 4))) (u:=be c 4) rfl rfl (by simp [be_length];omega)
     rw[List.append_nil]at q4
     have gx5:=A5.get (j:=h'.length) (.inr rfl) hgx
     obtain⟨b6,M6,A6,_,q5⟩:=A5.app (o:=o) [] (x:=.asl h'.length 3 16 1) (u:=x.sum) (by rw[List.append_nil];exact asl_el gx5 hx) rfl (by unfold Itm.ok at hx;simp [be_length];omega)
     rw[List.append_nil]at q5
     simp only[sc18r0,sc18r1,sc18r2,sc18r3,sc18r4,sc18r5,sc18r6,sc18r7,sc18r8,sc18r9,sc18r10,sc18r11,sc18r12,sc18r13,sc18r14,sc18r15,sc18r16,sc18r17,sc18r18,sc18r19,sc18l20,sc18r21,sc18,↓rwS,↓rwX,rwZ,rwT,rwG,Nat.reduceEqDiff,Nat.reduceAdd,reduceCtorEq,Nat.reduceLT,t1,t4,t24,t25,t26,e1,e2,e3,a1,a2,z46,st,hset_end,hMM,fp46_0,fp46_1,fp46_2,fp46_3,fp44_0,lk0,lk1,l30,l31,l42,cvb,bs1,appW_sl u117 u117,appW_str u117 u9,q1,q2,q4,q5,sl27,c53_4 ho hcm,w1]
     refine⟨_,?_,i+1,b6,rfl,by omega,?_,trivial,trivial,?_⟩
     ·omega
     ·have hfin:cBi n xs i++[UInt8.ofNat x.key.length]++x.key++be c 4++x.sum=cBi n xs (i+1):=by
       rw[hsu]
       unfold itB
       rw[if_neg (show ¬(n:Int)=0 by omega),if_pos (show(n:Int) > 0∨x.tree=true from .inl (by omega)),hc,Int.toNat_natCast]
       simp only[be_one,List.append_assoc,List.cons_append,List.nil_append]
      rw[← hfin]
      exact A6.less (fun j hj=>.inl hj) fun j hj=>by
       obtain⟨z1,z2⟩:=A.keep j hj
       rw[← hMM,hget_app _ _ _ z1,z2]
     ·first|rfl|exact trivial|exact⟨trivial,rfl⟩|(simp;done)
   ·have e1:decide ((i:Int)<(xs.length:Int))=false:=decide_eq_false (by omega)
    obtain rfl:i=xs.length:=by omega
    simp only[sc18r0,sc18r1,sc18r2,sc18r3,sc18r4,sc18r5,sc18r6,sc18r7,sc18r8,sc18r9,sc18r10,sc18r11,sc18r12,sc18r13,sc18r14,sc18r15,sc18r16,sc18r17,sc18r18,sc18r19,sc18l20,sc18r21,sc18,↓rwS,↓rwX,rwZ,rwT,rwG,Nat.reduceEqDiff,Nat.reduceAdd,reduceCtorEq,Nat.reduceLT,t1,t4,t24,t25,t26,e1,A.conv]
    refine⟨ext_of ?_ fun j hj=>?_,?_⟩
    ·have:=(A.keep h.length (by omega)).1;omega
    ·rw[(A.keep j (by omega)).2,hget_appL _ _ hj]
    ·unfold byR
     rw[hvb,cBi_all];rfl
end
section
variable {o:Orc} (ho:FreeT o)
include ho
theorem cs54{M X l xs} (H:ConC M X l xs) (hok:∀ x∈xs,x.ok) (hn:xs.length<100000) (hk:∀ x∈xs,x.key.length<1000000):CS cx o (.fn 54 [X]) M (.ret (.p (.bool (vB l xs)))) M:=
 con_cs H rfl fun h0 X0 H0=>is54 ho H0.o hok hn hk
theorem c147_1{n:Nat} (hn:n<4611686018427387904) {h dst t d r k Q}:callW cx o dst t h d r (some (.fn 147 [.p (.int .i64 (n:Int)),.p (.int .i64 1)])) k Q=k (put dst (.p (.str (be n 1))) t) h d r:=call147n ho (w:=1) hn (by decide)
theorem c147_2{n:Nat} (hn:n<4611686018427387904) {h dst t d r k Q}:callW cx o dst t h d r (some (.fn 147 [.p (.int .i64 (n:Int)),.p (.int .i64 2)])) k Q=k (put dst (.p (.str (be n 2))) t) h d r:=call147n ho (w:=2) hn (by decide)
theorem c147_4{n:Nat} (hn:n<4611686018427387904) {h dst t d r k Q}:callW cx o dst t h d r (some (.fn 147 [.p (.int .i64 (n:Int)),.p (.int .i64 4)])) k Q=k (put dst (.p (.str (be n 4))) t) h d r:=call147n ho (w:=4) hn (by decide)
set_option maxHeartbeats 4000000 in
theorem written55{h:List Ob} {X:AV} {l:Int} {xs:List Itm} (H:ConC h X l xs) (hok:∀ x∈xs,x.ok) (hn:xs.length<20000) (hk:∀ x∈xs,x.key.length<1000) (hvp:VP l xs) :
  Ct cx o (.fn 55 [X]) h (fun e h1=>(∃ ext,h1=h++ext)∧e=.ret (.p (.str (cB l xs)))):=by
 refine ct55 (ho _ _ _ (by decide)) rfl ?_
 obtain⟨v,cv,hX,hv,hs⟩:=H
 have hbox:∀ hh:List Ob,boxW hh 44 X=.wn (.ptr hh.length 0) (.cells 44 [.p (.int .i64 l),v]):=fun hh=>con_box (h:=h) hX
 have g0:=hget_new h (.cells 44 [.p (.int .i64 l),v])
 obtain⟨⟨v0,v1,v2,v3,v4⟩,hvi⟩:=hvp
 obtain⟨n,rfl⟩:∃ n:Nat,l=n:=⟨l.toNat,by omega⟩
 have m0:=con_l0 g0
 have m1:=con_l1 g0
 have len1:=((hv.ext [.cells 44 [.p (.int .i64 (n:Int)),v]]).sl' hs).len u42
 rw[List.length_map]at len1
 have e0:∀ q,bin3 .add cx 9 q (.p (.str (be n 1))) (.p (.str (be xs.length 2)))=.w (.p (.str (be n 1++be xs.length 2))):=fun q=>add_s (by simp only[be_length];omega)
 have A2:=BA.row (P:=fun j=>j<h.length+1) (G:=h++[.cells 44 [.p (.int .i64 (n:Int)),v]]) (s:=be n 1++be xs.length 2) (fun j hj=>by rw[List.length_append];exact hj)
 have Sk:∀ {M b s},BA (fun j=>j<h.length+1) (h++[.cells 44 [.p (.int .i64 (n:Int)),v]]) M b s→Co1 M v cv:=fun {M b s} A=>hv.keep fun j hj=>by
  have:=ids1_lt hv j hj
  rw[(A.keep j (by omega)).2,hget_appL _ _ this]
 simp only[sc55r0,sc55r1,sc55d1_x,sc55r2,sc55r3,sc55r4,sc55r5,sc55d5_x,sc55r6,sc55r7,sc55r8,sc55r9,sc55r10,sc55r11,sc55r12,sc55r13,sc55r15,sc55,↓rwC,rwD,rwI,Nat.reduceSub,Nat.reduceLeDiff,↓rwS,↓rwX,rwZ,rwT,rwG,Nat.reduceEqDiff,Nat.reduceAdd,reduceCtorEq,Nat.reduceLT,hbox,fp44_0,fp44_1,m0,m1,len1,c147_1 ho (show n<4611686018427387904 by omega),c147_2 ho (show xs.length<4611686018427387904 by omega),e0,cvBy]
 have hcb:cBi n xs 0=be n 1++be xs.length 2:=by
  unfold cBi;rw[Int.toNat_natCast];simp [itsB]
 refine xC_loop (fun m t h' d r=>∃ (i:Nat) (b:AV),m=xs.length-i∧i≤xs.length∧BA (fun j=>j<h.length+1) (h++[.cells 44 [.p (.int .i64 (n:Int)),v]]) h' b (cBi n xs i)∧d=[]∧r=none∧t.get 1=.ptr h.length 0∧t.get 3=b∧t.get 4=.p (.int .i64 (i:Int))) xs.length ?_ ?_
 ·refine⟨0,_,rfl,by omega,by rw[hcb];exact A2,rfl,rfl,?_⟩
  simp only[↓rwA,rwB,rwG,Nat.reduceEqDiff,Nat.reduceAdd,reduceCtorEq,Nat.reduceLT,true_and]
  first|rfl|exact trivial|(simp;done)
 ·clear A2 len1
  rintro m t h' d r ⟨i,b,rfl,hi,A,rfl,rfl,t1,t3,t4⟩
  have gC:=A.get (j:=h.length) (by omega) g0
  have lC:=con_l1 gC
  have len2:=((Sk A).sl' hs).len u42
  rw[List.length_map]at len2
  by_cases hlt:i<xs.length
  ·have e1:decide ((i:Int)<(xs.length:Int))=true:=decide_eq_true (by omega)
   have w1:=one63 (show i+1<9223372036854775808 by omega)
   have HN:=(Sk A).sl' hs
   obtain⟨a1,a2⟩:=it_at HN hlt hok
   have hx:=hok _ (it_mem hlt)
   have hkx:=hk _ (it_mem hlt)
   have hcl:=cBi_len hok hk (l:=n) i (by omega)
   have hvx:=(hvi i hlt).1
   have hsu:=cBi_succ (l:=(n:Int)) hlt
   generalize hxx:xs.getD i Itm.z=x at *
   obtain⟨c,hc⟩:∃ c:Nat,x.count=c:=⟨x.count.toNat,by
    unfold vI at hvx
    split at hvx<;>simp at hvx<;>omega⟩
   have hcm:c<4611686018427387904:=by
    unfold vI at hvx
    split at hvx<;>simp at hvx<;>omega
   have st:=it_st (x:=x) (hget_new h' (.cells 46 (Itm.z.V.cells.map .p))) hx zc_len
   have A1:=A.more x.c
   have hgx:=hget_new h' x.c
   have hgc:hget (h'++[x.c]) h.length=.cells 44 [.p (.int .i64 (n:Int)),v]:=by
    obtain⟨z1,z2⟩:=A.keep h.length (by omega)
    rw[hget_app _ _ _ z1,z2];exact g0
   generalize hMM:h'++[x.c]=M1 at *
   have lk0:=it_l0 hgx
   have e5:∀ q,bin3 .add cx 9 q (.p (.str (be x.key.length 1))) (.p (.str x.key))=.w (.p (.str (be x.key.length 1++x.key))):=fun q=>add_s (by simp only[be_length];omega)
   obtain⟨b3,M3,A3,_,q2⟩:=A1.app (o:=o) [] (x:=.p (.str (be x.key.length 1++x.key))) (u:=be x.key.length 1++x.key) rfl rfl (by simp [be_length];omega)
   rw[List.append_nil]at q2
   have gx3:=A3.get (j:=h'.length) (.inr rfl) hgx
   have gc3:=A3.get (j:=h.length) (.inl (by omega)) hgc
   have l30:=con_l0 gc3
   have l31:=it_l1 gx3
   by_cases h0:n=0
   ·have e2:decide ((n:Int)=0)=true:=decide_eq_true (by omega)
    have e3:decide (0<(n:Int))=false:=decide_eq_false (by omega)
    cases htr:x.tree with
    |true=>
     rw[htr]at l31
     obtain⟨b4,M4,A4,_,q3⟩:=A3.app (o:=o) [.row 5 1 [.int .u8 1] true 0] (x:=.sl M3.length 0 1 0 1) (u:=[1]) (elems_sl1 (xs:=[.int .u8 1]) (hget_new _ _)) rfl (by simp [be_length];omega)
     have gx4:=A4.get (j:=h'.length) (.inr rfl) hgx
     have gc4:=A4.get (j:=h.length) (.inl (by omega)) hgc
     have l40:=con_l0 gc4
     have l41:=it_l1 gx4
     have l42:=it_l2 gx4
     rw[hc]at l42
     rw[htr]at l41
     obtain⟨b5,M5,A5,_,q4⟩:=A4.app (o:=o) [] (x:=.p (.str (be c 4))) (u:=be c 4) rfl rfl (by simp [be_length];omega)
     rw[List.append_nil]at q4
     have gx5:=A5.get (j:=h'.length) (.inr rfl) hgx
     obtain⟨b6,M6,A6,_,q5⟩:=A5.app (o:=o) [] (x:=.asl h'.length 3 16 1) (u:=x.sum) (by rw[List.append_nil];exact asl_el gx5 hx) rfl (by unfold Itm.ok at hx;simp [be_length];omega)
     rw[List.append_nil]at q5
     simp only[sc55r0,sc55r1,sc55d1_x,sc55r2,sc55r3,sc55r4,sc55r5,sc55d5_x,sc55r6,sc55r7,sc55r8,sc55r9,sc55r10,sc55r11,sc55r12,sc55r13,sc55l14,sc55r15,sc55,↓rwC,rwD,rwI,Nat.reduceSub,Nat.reduceLeDiff,↓rwS,↓rwX,rwZ,rwT,rwG,Nat.reduceEqDiff,Nat.reduceAdd,reduceCtorEq,Nat.reduceLT,t1,t3,t4,e1,e2,e3,lC,len2,a1,a2,z46,c147_1 ho (show x.key.length<4611686018427387904 by omega),st,hset_end,hMM,fp46_0,fp46_1,fp46_2,fp46_3,fp44_0,fp44_1,e5,lk0,l30,l31,l40,l41,l42,bsL1,appW_sl u117 u117,appW_str u117 u9,q2,q3,q4,q5,sl27,c147_4 ho hcm,w1]
     refine⟨_,?_,i+1,b6,rfl,by omega,?_,?_⟩
     ·omega
     ·have hfin:cBi n xs i++(be x.key.length 1++x.key)++[1]++be c 4++x.sum=cBi n xs (i+1):=by
       rw[hsu]
       unfold itB
       rw[if_pos (show(n:Int)=0 by omega),if_pos htr,if_pos (show(n:Int) > 0∨x.tree=true from .inr htr),hc,Int.toNat_natCast]
       simp only[be_one,List.append_assoc,List.cons_append,List.nil_append]
      rw[← hfin]
      exact A6.less (fun j hj=>.inl hj) fun j hj=>by
       obtain⟨z1,z2⟩:=A.keep j hj
       rw[← hMM,hget_app _ _ _ z1,z2]
     ·first|rfl|exact trivial|exact⟨trivial,rfl⟩|exact⟨trivial,trivial,rfl⟩|exact⟨rfl,trivial⟩|(simp;done)
    |false=>
     rw[htr]at l31
     obtain⟨b4,M4,A4,_,q3⟩:=A3.app (o:=o) [.row 5 1 [.int .u8 0] true 0] (x:=.sl M3.length 0 1 0 1) (u:=[0]) (elems_sl1 (xs:=[.int .u8 0]) (hget_new _ _)) rfl (by simp [be_length];omega)
     have gx4:=A4.get (j:=h'.length) (.inr rfl) hgx
     have gc4:=A4.get (j:=h.length) (.inl (by omega)) hgc
     have l40:=con_l0 gc4
     have l41:=it_l1 gx4
     rw[htr]at l41
     obtain⟨b6,M6,A6,_,q5⟩:=A4.app (o:=o) [] (x:=.asl h'.length 3 16 1) (u:=x.sum) (by rw[List.append_nil];exact asl_el gx4 hx) rfl (by unfold Itm.ok at hx;simp [be_length];omega)
     rw[List.append_nil]at q5
     simp only[sc55r0,sc55r1,sc55d1_x,sc55r2,sc55r3,sc55r4,sc55r5,sc55d5_x,sc55r6,sc55r7,sc55r8,sc55r9,sc55r10,sc55r11,sc55r12,sc55r13,sc55l14,sc55r15,sc55,↓rwC,rwD,rwI,Nat.reduceSub,Nat.reduceLeDiff,↓rwS,↓rwX,rwZ,rwT,rwG,Nat.reduceEqDiff,Nat.reduceAdd,reduceCtorEq,Nat.reduceLT,t1,t3,t4,e1,e2,e3,lC,len2,a1,a2,z46,c147_1 ho (show x.key.length<4611686018427387904 by omega),st,hset_end,hMM,fp46_0,fp46_1,fp46_2,fp46_3,fp44_0,fp44_1,e5,lk0,l30,l31,l40,l41,bsL0,appW_sl u117 u117,appW_str u117 u9,q2,q3,q5,sl27,w1]
     refine⟨_,?_,i+1,b6,rfl,by omega,?_,?_⟩
     ·omega
     ·have hfin:cBi n xs i++(be x.key.length 1++x.key)++[0]++x.sum=cBi n xs (i+1):=by
       rw[hsu]
       unfold itB
       rw[if_pos (show(n:Int)=0 by omega),if_neg (show ¬x.tree=true by rw[htr];decide),if_neg (show ¬((n:Int) > 0∨x.tree=true) by rw[htr];simp;omega)]
       simp only[be_one,List.append_assoc,List.cons_append,List.nil_append]
      rw[← hfin]
      exact A6.less (fun j hj=>.inl hj) fun j hj=>by
       obtain⟨z1,z2⟩:=A.keep j hj
       rw[← hMM,hget_app _ _ _ z1,z2]
     ·first|rfl|exact trivial|exact⟨trivial,rfl⟩|exact⟨trivial,trivial,rfl⟩|exact⟨rfl,trivial⟩|(simp;done)
   ·have e2:decide ((n:Int)=0)=false:=decide_eq_false (by omega)
    have e3:decide (0<(n:Int))=true:=decide_eq_true (by omega)
    have l42:=it_l2 gx3
    rw[hc]at l42
    obtain⟨b5,M5,A5,_,q4⟩:=A3.app (o:=o) [] (x:=.p (.str (be c 4))) (u:=be c 4) rfl rfl (by simp [be_length];omega)
    rw[List.append_nil]at q4
    have gx5:=A5.get (j:=h'.length) (.inr rfl) hgx
    obtain⟨b6,M6,A6,_,q5⟩:=A5.app (o:=o) [] (x:=.asl h'.length 3 16 1) (u:=x.sum) (by rw[List.append_nil];exact asl_el gx5 hx) rfl (by unfold Itm.ok at hx;simp [be_length];omega)
    rw[List.append_nil]at q5
    simp only[sc55r0,sc55r1,sc55d1_x,sc55r2,sc55r3,sc55r4,sc55r5,sc55d5_x,sc55r6,sc55r7,sc55r8,sc55r9,sc55r10,sc55r11,sc55r12,sc55r13,sc55l14,sc55r15,sc55,↓rwC,rwD,rwI,Nat.reduceSub,Nat.reduceLeDiff,↓rwS,↓rwX,rwZ,rwT,rwG,Nat.reduceEqDiff,Nat.reduceAdd,reduceCtorEq,Nat.reduceLT,t1,t3,t4,e1,e2,e3,lC,len2,a1,a2,z46,c147_1 ho (show x.key.length<4611686018427387904 by omega),st,hset_end,hMM,fp46_0,fp46_1,fp46_2,fp46_3,fp44_0,fp44_1,e5,lk0,l30,l31,l42,appW_sl u117 u117,appW_str u117 u9,q2,q4,q5,sl27,c147_4 ho hcm,w1]
    refine⟨_,?_,i+1,b6,rfl,by omega,?_,?_⟩
    ·omega
    ·have hfin:cBi n xs i++(be x.key.length 1++x.key)++be c 4++x.sum=cBi n xs (i+1):=by
      rw[hsu]
      unfold itB
      rw[if_neg (show ¬(n:Int)=0 by omega),if_pos (show(n:Int) > 0∨x.tree=true from .inl (by omega)),hc,Int.toNat_natCast]
      simp only[be_one,List.append_assoc,List.cons_append,List.nil_append]
     rw[← hfin]
     exact A6.less (fun j hj=>.inl hj) fun j hj=>by
      obtain⟨z1,z2⟩:=A.keep j hj
      rw[← hMM,hget_app _ _ _ z1,z2]
    ·first|rfl|exact trivial|exact⟨trivial,rfl⟩|exact⟨trivial,trivial,rfl⟩|exact⟨rfl,trivial⟩|(simp;done)
  ·have e1:decide ((i:Int)<(xs.length:Int))=false:=decide_eq_false (by omega)
   obtain rfl:i=xs.length:=by omega
   simp only[sc55r0,sc55r1,sc55d1_x,sc55r2,sc55r3,sc55r4,sc55r5,sc55d5_x,sc55r6,sc55r7,sc55r8,sc55r9,sc55r10,sc55r11,sc55r12,sc55r13,sc55l14,sc55r15,sc55,↓rwS,↓rwX,rwZ,rwT,rwG,Nat.reduceEqDiff,Nat.reduceAdd,reduceCtorEq,Nat.reduceLT,t1,t3,t4,e1,fp44_1,lC,len2,A.conv]
   refine⟨ext_of ?_ fun j hj=>?_,?_⟩
   ·have:=(A.keep h.length (by omega)).1;omega
   ·rw[(A.keep j (by omega)).2,hget_appL _ _ hj]
   ·rw[cBi_all]
end
section
variable {o:Orc} (ho:FreeT o)
include ho
theorem number61{s:List UInt8} (hs:s.length≤4):Ct cx o (.fn 61 [.p (.str s)]) [] (fun e _=>e=.ret (.p (.int .i64 ((nm s 0:Nat):Int)))):=by
 refine ct61 (ho _ _ _ (by decide)) rfl ?_
 simp only[sc61r0,sc61r1,sc61r2,sc61r3,sc61r4,sc61r5,sc61r7,sc61,↓rwS,↓rwX,rwZ,rwT,rwG,Nat.reduceEqDiff,Nat.reduceAdd,reduceCtorEq,Nat.reduceLT]
 refine xC_loop (fun m t h' d r=>∃ k:Nat,m=s.length-k∧k≤s.length∧d=[]∧r=none∧t.get 0=.p (.str s)∧t.get 3=.p (.int .i64 ((nm (s.take k) 0:Nat):Int))∧t.get 4=.p (.int .i64 (k:Int))) s.length ?_ ?_
 ·refine⟨0,rfl,by omega,rfl,rfl,?_⟩
  simp only[↓rwA,rwB,rwG,Nat.reduceEqDiff,Nat.reduceAdd,reduceCtorEq,Nat.reduceLT,true_and]
  first|rfl|exact trivial|(simp [nm];done)
 ·rintro m t h' d r ⟨k,rfl,hk,rfl,rfl,t0,t3,t4⟩
  by_cases hlt:k<s.length
  ·have e1:decide ((k:Int)<(s.length:Int))=true:=decide_eq_true (by omega)
   have ix:=index_str (c:=cx) (ty:=9) (s:=s) (i:=(k:Int)) (j:=.i64) u9 (by omega) (by omega)
   rw[Int.toNat_natCast]at ix
   have h8:(s.getD k 0).toNat<256:=UInt8.toNat_lt _
   have hcv:∀ hh,conv3 cx hh 5 3 (.p (.int .u8 ((s.getD k 0).toNat:Int)))=.w (.p (.int .i64 ((s.getD k 0).toNat:Int))):=fun hh=>by
    rw[conv_int u5 u3,wrap64_id (by omega) (by omega)]
   have hnm:nm (s.take k) 0<16777216:=by
    have h1:=nm_lt (s.take k) 0
    have h2:(s.take k).length=k:=by simp;omega
    rw[h2]at h1
    have:256 ^ k≤256 ^ 3:=Nat.pow_le_pow_right (by decide) (by omega)
    omega
   have hst:nm (s.take (k+1)) 0=nm (s.take k) 0*256+(s.getD k 0).toNat:=by
    rw[List.take_add_one,nm_app,List.getElem?_eq_getElem (by omega)]
    simp [List.getD,show k<s.length by omega,nm]
   have hs8:IntKind.wrap .i64 (((nm (s.take k) 0:Nat):Int)*256)=((nm (s.take k) 0*256:Nat):Int):=by
    rw[wrap64_id (by omega) (by omega)];omega
   have hs9:IntKind.wrap .i64 (((nm (s.take k) 0*256:Nat):Int)+((s.getD k 0).toNat:Int))=((nm (s.take (k+1)) 0:Nat):Int):=by
    rw[wrap64_id (by omega) (by omega),hst];omega
   have w1:=one64 (show k<4611686018427387904 by omega)
   simp only[sc61r0,sc61r1,sc61r2,sc61r3,sc61r4,sc61r5,sc61l6,sc61r7,sc61,↓rwS,↓rwX,rwZ,rwT,rwG,Nat.reduceEqDiff,Nat.reduceAdd,reduceCtorEq,Nat.reduceLT,t0,t3,t4,e1,ix,hcv,hs8,hs9,w1]
   refine⟨_,?_,k+1,rfl,by omega,trivial,trivial,?_⟩
   ·omega
   ·first|rfl|exact trivial|(simp;done)
  ·have e1:decide ((k:Int)<(s.length:Int))=false:=decide_eq_false (by omega)
   obtain rfl:k=s.length:=by omega
   simp only[sc61r0,sc61r1,sc61r2,sc61r3,sc61r4,sc61r5,sc61l6,sc61r7,sc61,↓rwS,↓rwX,rwZ,rwT,rwG,Nat.reduceEqDiff,Nat.reduceAdd,reduceCtorEq,Nat.reduceLT,t0,t3,t4,e1,List.take_length]
theorem c61{s:List UInt8} (hs:s.length≤4) {h dst t d r k Q}:callW cx o dst t h d r (some (.fn 61 [.p (.str s)])) k Q=k (put dst (.p (.int .i64 ((nm s 0:Nat):Int))) t) h d r:=callW_ret ext61 (cs_p (f:=61) (ps:=[.str s]) rfl (number61 ho hs))
end
instance:DecidableEq Itm:=fun a b=>decidable_of_iff (a.key=b.key∧a.tree=b.tree∧a.count=b.count∧a.sum=b.sum) (by
 obtain⟨k1,t1,c1,s1⟩:=a
 obtain⟨k2,t2,c2,s2⟩:=b
 simp only[Itm.mk.injEq])
theorem eqEsB(a b:List UInt8):∀ (n i k:Nat),i+n≤a.length→i+n≤b.length→eqEs cx (n+k+2) 5 1 (bytesPV a) (bytesPV b) n i=some (decide ((a.drop i).take n=(b.drop i).take n)):=by
 intro n
 induction n with
 |zero=>intro i k _ _;rw[show 0+k+2=(k+1)+1 by omega,eqEs_z];simp
 |succ n ih=>
  intro i k ha hb
  have ga:∀ l:List UInt8,i+(n+1)≤l.length→(bytesPV l)[i]?=some (.int .u8 ((l.getD i 0).toNat:Int)):=fun l hl=>by
   unfold bytesPV
   rw[List.getElem?_map,List.getElem?_eq_getElem (by omega)]
   simp [List.getD,show i<l.length by omega]
  have gd:∀ l:List UInt8,i+(n+1)≤l.length→(l.drop i).take (n+1)=l.getD i 0::(l.drop (i+1)).take n:=fun l hl=>by
   rw[List.drop_eq_getElem_cons (by omega),List.take_succ_cons]
   simp [List.getD,show i<l.length by omega]
  rw[show n+1+k+2=(n+k+1)+2 by omega,eqE1 (ga a ha) (ga b hb),gd a ha,gd b hb]
  rw[show n+k+1+1=n+k+2 by omega,ih (i+1) k (by omega) (by omega)]
  have:(((a.getD i 0).toNat:Int)=((b.getD i 0).toNat:Int))↔a.getD i 0=b.getD i 0:=by
   constructor
   ·intro h;exact UInt8.toNat_inj.1 (by omega)
   ·intro h;rw[h]
  rw[decide_eq_decide.2 this,cnd]
  congr 1
  simp
theorem eqit0(a b:List PV):eqT cx 60 46 (.agg a) (.agg b)=(match part? cx 9 a 0,part? cx 9 b 0 with
  |some x,some y=>(match eqT cx 58 9 x y with
   |some true=>(match part? cx 4 a 1,part? cx 4 b 1 with
    |some x,some y=>(match eqT cx 57 4 x y with
     |some true=>(match part? cx 3 a 2,part? cx 3 b 2 with
      |some x,some y=>(match eqT cx 56 3 x y with
       |some true=>(match part? cx 27 a 3,part? cx 27 b 3 with
        |some x,some y=>(match eqT cx 55 27 x y with|some true=>some true|r=>r)
        |_,_=>none)
       |r=>r)
      |_,_=>none)
     |r=>r)
    |_,_=>none)
   |r=>r)
  |_,_=>none):=by kernel_rfl
theorem it_p0(x:Itm):part? cx 9 x.cs 0=some (.str x.key):=by unfold part?;rw[a9];rfl
theorem it_p1(x:Itm):part? cx 4 x.cs 1=some (.bool x.tree):=by unfold part?;rw[a4];rfl
theorem it_p2(x:Itm):part? cx 3 x.cs 2=some (.int .i64 x.count):=by unfold part?;rw[a3];rfl
theorem it_p3{x:Itm} (h:x.ok):part? cx 27 x.cs 3=some (.agg (bytesPV x.sum)):=by
 unfold part?
 rw[a27]
 simp only[s27]
 unfold subK
 rw[Itm.len h]
 show lnf (((x.cs.drop 3)).take 16) (fun m=>some (PV.agg m))=_
 rw[lnf_eq]
 show some (PV.agg ((bytesPV x.sum).take 16))=_
 rw[List.take_of_length_le (by rw[bytesPV_len,h];decide)]
theorem eqit{x y:Itm} (hx:x.ok) (hy:y.ok):eqT cx 60 46 x.V y.V=some (decide (x=y)):=by
 have e9:eqT cx 58 9 (.str x.key) (.str y.key)=some (decide (x.key=y.key)):=by
  unfold eqT;rw[u9];simp only[beqBytes_eq]
 have e4:eqT cx 57 4 (.bool x.tree) (.bool y.tree)=some (decide (x.tree=y.tree)):=by
  unfold eqT;rw[u4];cases x.tree<;>cases y.tree<;>rfl
 have e3:eqT cx 56 3 (.int .i64 x.count) (.int .i64 y.count)=some (decide (x.count=y.count)):=by
  unfold eqT;rw[u3];simp only[Nat.beq_refl,cond,eqI_eq]
 have e27:eqT cx 55 27 (.agg (bytesPV x.sum)) (.agg (bytesPV y.sum))=some (decide (x.sum=y.sum)):=by
  have h:eqT cx 55 27 (.agg (bytesPV x.sum)) (.agg (bytesPV y.sum))=eqEs cx 54 5 1 (bytesPV x.sum) (bytesPV y.sum) 16 0:=by
   unfold eqT
   rw[u27]
   simp only[s5]
  unfold Itm.ok at hx hy
  rw[h,eqEsB x.sum y.sum 16 0 36 (by omega) (by omega),List.drop_zero,List.drop_zero,List.take_of_length_le (by omega),List.take_of_length_le (by omega)]
 unfold Itm.V
 rw[eqit0]
 simp only[it_p0,it_p1,it_p2,it_p3 hx,it_p3 hy,e9,e4,e3,e27]
 have:(x=y)↔(x.key=y.key∧x.tree=y.tree∧x.count=y.count∧x.sum=y.sum):=by
  obtain⟨k1,t1,c1,s1⟩:=x
  obtain⟨k2,t2,c2,s2⟩:=y
  simp only[Itm.mk.injEq]
 rw[show decide (x=y)=decide (x.key=y.key∧x.tree=y.tree∧x.count=y.count∧x.sum=y.sum)from decide_eq_decide.2 this]
 by_cases h1:x.key=y.key<;>by_cases h2:x.tree=y.tree<;>by_cases h3:x.count=y.count<;>by_cases h4:x.sum=y.sum<;>simp [h1,h2,h3,h4]
theorem neq_it{q:Bool} {x y:Itm} (hx:x.ok) (hy:y.ok):bin3 .neq cx 46 q (.p x.V) (.p y.V)=.w (.p (.bool (!decide (x=y)))):=by
 have h:bin3 .neq cx 46 q (.p x.V) (.p y.V)=(match eqT cx 60 46 x.V y.V with|some b=>resB (!b)|none=>.no):=by kernel_rfl
 rw[h,eqit hx hy]
 cases decide (x=y)<;>rfl
section
variable {o:Orc} (ho:FreeT o)
include ho
theorem same62{h:List Ob} {v w:AV} {xs ys:List Itm} (Hv:Sl h 19 v (xs.map Itm.V)) (Hw:Sl h 19 w (ys.map Itm.V)) (hx:∀ x∈xs,x.ok) (hy:∀ x∈ys,x.ok) (hn:xs.length<100000) (hm:ys.length<100000) :
  Ct cx o (.fn 62 [v,w]) h (fun e h1=>e=.ret (.p (.bool (decide (xs=ys))))∧∃ ext,h1=h++ext):=by
 refine ct62 (ho _ _ _ (by decide)) rfl ?_
 have lv:=Hv.len u42
 have lw:=Hw.len u42
 rw[List.length_map]at lv lw
 by_cases hl:xs.length=ys.length
 ·have el:decide ((xs.length:Int)=(ys.length:Int))=true:=decide_eq_true (by omega)
  simp only[sc62r0,sc62r1,sc62r2,sc62r3,sc62r4,sc62r5,sc62d5_x,sc62r6,sc62r7,sc62r9,sc62,↓rwS,↓rwX,rwZ,rwT,rwG,Nat.reduceEqDiff,Nat.reduceAdd,reduceCtorEq,Nat.reduceLT,lv,lw,el,Bool.not_true]
  refine xC_loop (fun m t h' d r=>∃ k:Nat,m=xs.length-k∧k≤xs.length∧(∀ j,j<k→xs.getD j Itm.z=ys.getD j Itm.z)∧h'=h∧d=[]∧r=none∧t.get 0=v∧t.get 1=w∧t.get 5=.p (.int .i64 (k:Int))) xs.length ?_ ?_
  ·refine⟨0,rfl,by omega,fun j hj=>by omega,rfl,rfl,rfl,?_⟩
   simp only[↓rwA,rwB,rwG,Nat.reduceEqDiff,Nat.reduceAdd,reduceCtorEq,Nat.reduceLT,true_and]
   first|rfl|exact trivial|(simp;done)
  ·rintro m t h' d r ⟨k,rfl,hk,hall,rfl,rfl,rfl,t0,t1,t5⟩
   by_cases hlt:k<xs.length
   ·have e1:decide ((k:Int)<(xs.length:Int))=true:=decide_eq_true (by omega)
    obtain⟨a1,a2⟩:=it_at Hv hlt hx
    obtain⟨b1,b2⟩:=it_at Hw (show k<ys.length by omega) hy
    have ne:=fun q=>neq_it (q:=q) (hx _ (it_mem hlt)) (hy _ (it_mem (show k<ys.length by omega)))
    have w1:=one64 (show k<4611686018427387904 by omega)
    by_cases he:xs.getD k Itm.z=ys.getD k Itm.z
    ·have e2:decide (xs.getD k Itm.z=ys.getD k Itm.z)=true:=decide_eq_true he
     simp only[sc62r0,sc62r1,sc62r2,sc62r3,sc62r4,sc62r5,sc62d5_x,sc62r6,sc62r7,sc62l8,sc62r9,sc62,↓rwC,rwD,rwI,Nat.reduceSub,Nat.reduceLeDiff,↓rwS,↓rwX,rwZ,rwT,rwG,Nat.reduceEqDiff,Nat.reduceAdd,reduceCtorEq,Nat.reduceLT,t0,t1,t5,lv,e1,a1,a2,b1,b2,ne,e2,Bool.not_true,w1]
     refine⟨_,?_,k+1,rfl,by omega,fun j hj=>?_,?_⟩
     ·omega
     ·by_cases q:j=k
      ·subst q;exact he
      ·exact hall j (by omega)
     ·first|rfl|exact trivial|exact⟨rfl,rfl⟩|exact⟨trivial,trivial,trivial,rfl⟩|(simp;done)
    ·have e2:decide (xs.getD k Itm.z=ys.getD k Itm.z)=false:=decide_eq_false he
     simp only[sc62r0,sc62r1,sc62r2,sc62r3,sc62r4,sc62r5,sc62d5_x,sc62r6,sc62r7,sc62l8,sc62r9,sc62,↓rwC,rwD,rwI,Nat.reduceSub,Nat.reduceLeDiff,↓rwS,↓rwX,rwZ,rwT,rwG,Nat.reduceEqDiff,Nat.reduceAdd,reduceCtorEq,Nat.reduceLT,t0,t1,t5,lv,e1,a1,a2,b1,b2,ne,e2,Bool.not_false]
     have:¬xs=ys:=fun q=>he (by rw[q])
     rw[decide_eq_false this]
     exact⟨rfl,[],by simp⟩
   ·have e1:decide ((k:Int)<(xs.length:Int))=false:=decide_eq_false (by omega)
    simp only[sc62r0,sc62r1,sc62r2,sc62r3,sc62r4,sc62r5,sc62d5_x,sc62r6,sc62r7,sc62l8,sc62r9,sc62,↓rwC,rwD,rwI,Nat.reduceSub,Nat.reduceLeDiff,↓rwS,↓rwX,rwZ,rwT,rwG,Nat.reduceEqDiff,Nat.reduceAdd,reduceCtorEq,Nat.reduceLT,t0,t1,t5,lv,e1]
    have:xs=ys:=by
     apply List.ext_getElem hl
     intro j h1 h2
     have:=hall j (by omega)
     simpa [List.getD,h1,h2]using this
    rw[decide_eq_true this]
    exact⟨rfl,[],by simp⟩
 ·have el:decide ((xs.length:Int)=(ys.length:Int))=false:=decide_eq_false (by omega)
  simp only[sc62r0,sc62r1,sc62r2,sc62r3,sc62r4,sc62r5,sc62d5_x,sc62r6,sc62r7,sc62r9,sc62,↓rwS,↓rwX,rwZ,rwT,rwG,Nat.reduceEqDiff,Nat.reduceAdd,reduceCtorEq,Nat.reduceLT,lv,lw,el,Bool.not_false]
  have:¬xs=ys:=fun q=>hl (by rw[q])
  rw[decide_eq_false this]
  exact⟨rfl,[],by simp⟩
theorem same22{h:List Ob} {X Y:AV} {l m:Int} {xs ys:List Itm} (HX:ConC h X l xs) (HY:ConC h Y m ys) (hx:∀ x∈xs,x.ok) (hy:∀ x∈ys,x.ok) (hn:xs.length<100000) (hm:ys.length<100000) :
  Ct cx o (.fn 22 [X,Y]) h (fun e h1=>e=.ret (.p (.bool (decide (l=m∧xs=ys))))∧∃ ext,h1=h++ext):=by
 refine ct22 (ho _ _ _ (by decide)) rfl ?_
 obtain⟨v,cv,hX,hv,hs⟩:=HX
 obtain⟨w,cw,hY,hw,hs'⟩:=HY
 have b1:∀ hh:List Ob,boxW hh 44 X=.wn (.ptr hh.length 0) (.cells 44 [.p (.int .i64 l),v]):=fun hh=>con_box (h:=h) hX
 have b2:∀ hh:List Ob,boxW hh 44 Y=.wn (.ptr hh.length 0) (.cells 44 [.p (.int .i64 m),w]):=fun hh=>con_box (h:=h) hY
 have g1:hget (h++[.cells 44 [.p (.int .i64 l),v]]++[.cells 44 [.p (.int .i64 m),w]]) h.length=.cells 44 [.p (.int .i64 l),v]:=by
  rw[hget_app _ _ _ (by simp),hget_new]
 have g2:=hget_new (h++[.cells 44 [.p (.int .i64 l),v]]) (.cells 44 [.p (.int .i64 m),w])
 have x0:=con_l0 g1
 have x1:=con_l1 g1
 have y0:=con_l0 g2
 have y1:=con_l1 g2
 generalize hM:h++[.cells 44 [.p (.int .i64 l),v]]++[.cells 44 [.p (.int .i64 m),w]]=M at *
 have hM':∃ ext,M=h++ext:=⟨[.cells 44 [.p (.int .i64 l),v],.cells 44 [.p (.int .i64 m),w]],by rw[← hM];simp⟩
 obtain⟨ext,rfl⟩:=hM'
 have c62:CS cx o (.fn 62 [v,w]) (h++ext) (.ret (.p (.bool (decide (xs=ys))))) (h++ext):=
  cs_pure (c:=cx) (o:=o) (f:=62) (ps:=[cv,cw]) (.cons (.one (hv.ext ext)) (.cons (.one (hw.ext ext)) .nil)) rfl fun h0 as0 H0=>by
   obtain⟨a,b,rfl,r1,r2⟩:=l2_2 H0
   exact same62 ho (r1.sl' hs) (r2.sl' hs') hx hy hn hm
 by_cases hlm:l=m
 ·have e1:decide (l=m)=true:=decide_eq_true hlm
  simp only[sc22r0,sc22r1,sc22,↓rwS,↓rwX,rwZ,rwT,rwG,Nat.reduceEqDiff,Nat.reduceAdd,reduceCtorEq,Nat.reduceLT,b1,b2,hM,fp44_0,fp44_1,x0,x1,y0,y1,e1,callW_ret ext62 c62]
  rw[show decide (l=m∧xs=ys)=decide (xs=ys)from decide_eq_decide.2 ⟨fun q=>q.2,fun q=>⟨hlm,q⟩⟩]
  exact⟨rfl,_,rfl⟩
 ·have e1:decide (l=m)=false:=decide_eq_false hlm
  simp only[sc22r0,sc22r1,sc22,↓rwS,↓rwX,rwZ,rwT,rwG,Nat.reduceEqDiff,Nat.reduceAdd,reduceCtorEq,Nat.reduceLT,b1,b2,hM,fp44_0,fp44_1,x0,x1,y0,y1,e1]
  rw[decide_eq_false (show ¬(l=m∧xs=ys)from fun q=>hlm q.1)]
  exact⟨rfl,_,rfl⟩
end
theorem room46:room cx 46 1000000000=true:=by kernel_rfl
theorem it_fit{x:Itm} (hx:x.ok):fitsA true 19 x.V=true:=by
 have h1:(PV.agg x.cs).cells.length=19:=Itm.len hx
 unfold fitsA Itm.V
 simp [h1]
theorem bs46{h:List Ob} {x:Itm} (hx:x.ok):buildSlice? cx h 42 1 [(0,.p x.V)]=.wh (.sl h.length 0 19 0 1) (h++[.row 46 19 [x.V] true 0]):=build1 u42 s46 a46 z46 rfl (it_fit hx) (it_fit (x:=Itm.z) rfl)
theorem items_app{o:Orc} {h:List Ob} {b:AV} {acc:List Itm} {x:Itm} (H:Own h 46 19 b (acc.map Itm.V)) (hl:acc.length<1000000) :
  ∃ b1 h1,Own h1 46 19 b1 ((acc++[x]).map Itm.V)∧h.length≤h1.length∧(∀ j,j<h.length→j ∉ ids1 b→hget h1 j=hget h j)∧(∀ j∈ids1 b1,j∈ids1 b∨h.length≤j) ∧
   ∀ (op:Op) (dst:Option Tmp) (t:Tm) (d:List AD) (r:Option RM) (k:KP) (Q:Post),opW cx o none op dst t (h++[.row 46 19 [x.V] true 0]) d r (append? cx (h++[.row 46 19 [x.V] true 0]) 46 b (.sl h.length 0 19 0 1)) k Q=k (put dst b1 t) h1 d r:=by
 obtain⟨b1,h1,a1,a2,a3,a4,a5,a6⟩:=app_own (c:=cx) (o:=o) (rd:=none) (H.ext [.row 46 19 [x.V] true 0]) s46 (by decide) (x:=.sl h.length 0 19 0 1) (elems_sl1 (xs:=[x.V]) (hget_new _ _)) rfl (by simp) (room_le room46 (by simp;omega))
 refine⟨b1,h1,?_,?_,fun j hj hn=>?_,fun j hj=>?_,a6⟩
 ·rw[List.map_append];exact a1
 ·rw[List.length_append]at a2;omega
 ·rw[a3 j (by rw[List.length_append];omega) hn,hget_app _ _ _ hj]
 ·rcases a5 j hj with q|q
  ·exact .inl q
  ·rw[List.length_append]at q;right;omega
theorem own_co{h:List Ob} {b:AV} {xs:List PV} (H:Own h 46 19 b xs):∃ cv,Co1 h b cv∧IsS 19 cv xs:=by
 cases H with
 |nil=>exact⟨_,.p _,.nil⟩
 |row hr=>exact⟨_,.own hr,.own _ _⟩
theorem z50:zero? cx 50=some (.agg [.str [],.int .i64 0]):=by kernel_rfl
theorem b50_1:build? cx 50 [(1,.p (.int .i64 2))]=some (.p (.agg [.str [],.int .i64 2])):=by kernel_rfl
theorem b50_0(s:List UInt8):build? cx 50 [(0,.p (.str s))]=some (.p (.agg [.str s,.int .i64 0])):=by kernel_rfl
noncomputable def byS(l:Int) (xs:List Itm):List UInt8:=if vB l xs=true then cB l xs else []
noncomputable def byE(l:Int) (xs:List Itm):Int:=if vB l xs=true then 0 else 2
section
variable {o:Orc} (ho:FreeT o)
include ho
theorem cs55{M X l xs} (H:ConC M X l xs) (hok:∀ x∈xs,x.ok) (hn:xs.length<20000) (hk:∀ x∈xs,x.key.length<1000) (hvp:VP l xs):CS cx o (.fn 55 [X]) M (.ret (.p (.str (cB l xs)))) M:=
 con_cs H rfl fun h0 X0 H0=>written55 ho H0 hok hn hk hvp
theorem cs18{M X l xs} (H:ConC M X l xs) (hok:∀ x∈xs,x.ok) (hn:xs.length<20000) (hk:∀ x∈xs,x.key.length<1000):CS cx o (.fn 18 [X]) M (.ret (byR l xs)) M:=
 con_cs H rfl fun h0 X0 H0=>bytes18 ho H0 hok hn hk
theorem vb_vp{l xs} (h:vB l xs=true):VP l xs:=by
 by_cases q:VP l xs
 ·exact q
 ·rw[← vB_f q]at h;cases h
theorem bytes19{h:List Ob} {X:AV} {l:Int} {xs:List Itm} (H:ConC h X l xs) (hok:∀ x∈xs,x.ok) (hn:xs.length<20000) (hk:∀ x∈xs,x.key.length<1000) :
  Ct cx o (.fn 19 [X]) h (fun e h1=>(∃ ext,h1=h++ext)∧e=.ret (.p (.agg [.str (byS l xs),.int .i64 (byE l xs)]))):=by
 refine ct19 (ho _ _ _ (by decide)) rfl ?_
 obtain⟨v,cv,hX,hv,hs⟩:=H
 have hbox:∀ hh:List Ob,boxW hh 44 X=.wn (.ptr hh.length 0) (.cells 44 [.p (.int .i64 l),v]):=fun hh=>con_box (h:=h) hX
 have zc:(PV.agg [.str [],.int .i64 0]).cells.map AV.p=[.p (.str []),.p (.int .i64 0)]:=rfl
 have g1:hget (h++[.cells 44 [.p (.int .i64 l),v]]++[.cells 50 [.p (.str []),.p (.int .i64 0)]]) h.length=.cells 44 [.p (.int .i64 l),v]:=by
  rw[hget_app _ _ _ (by simp),hget_new]
 have g2:=hget_new (h++[.cells 44 [.p (.int .i64 l),v]]) (.cells 50 [.p (.str []),.p (.int .i64 0)])
 have hvM:=(hv.ext [.cells 44 [.p (.int .i64 l),v]]).ext [.cells 50 [.p (.str []),.p (.int .i64 0)]]
 generalize hM:h++[.cells 44 [.p (.int .i64 l),v]]++[.cells 50 [.p (.str []),.p (.int .i64 0)]]=M at *
 have hM2:h++[.cells 44 [.p (.int .i64 l),v]]++[.cells 50 ((PV.agg [.str [],.int .i64 0]).cells.map AV.p)]=M:=hM
 have hext:∃ ext,M=h++ext:=⟨[.cells 44 [.p (.int .i64 l),v],.cells 50 [.p (.str []),.p (.int .i64 0)]],by rw[← hM];simp⟩
 have ldc:load? cx M 44 (.ptr h.length 0)=some (mkAgg [.p (.int .i64 l),v]):=load_whole a44 s44 g1 rfl
 have hC:ConC M (mkAgg [.p (.int .i64 l),v]) l xs:=con_mk hvM hs
 have c54:=cs54 ho hC hok (by omega) (fun x hx=>by have:=hk x hx;omega)
 have l2:=hget_cells_lt g2
 have st:∀ a b,store? cx M 50 (.ptr (h++[Ob.cells 44 [.p (.int .i64 l),v]]).length 0) (.p (.agg [a,b]))=.ws undefA (h++[Ob.cells 44 [.p (.int .i64 l),v]]).length (.cells 50 [.p a,.p b]):=fun a b=>store_whole s50 g2 rfl rfl rfl
 have ld:∀ a b,load? cx (hset M (h++[Ob.cells 44 [.p (.int .i64 l),v]]).length (.cells 50 [.p a,.p b])) 50 (.ptr (h++[Ob.cells 44 [.p (.int .i64 l),v]]).length 0)=some (.p (.agg [a,b])):=fun a b=>by
  rw[load_whole (n:=2) a50 s50 (by rw[hget_hset _ _ _ _ l2,if_pos rfl]) rfl];exact congrArg some (mkAgg_p [a,b])
 have fin:∀ ob,∃ ext,hset M (h++[Ob.cells 44 [.p (.int .i64 l),v]]).length ob=h++ext:=fun ob=>by
  refine ext_of ?_ fun j hj=>?_
  ·rw[hset_length,← hM];simp
  ·rw[hget_hset _ _ _ _ l2,if_neg (by simp;omega),← hM,List.append_assoc,hget_appL _ _ hj]
 unfold byS byE
 cases hvb:vB l xs with
 |false=>
  rw[hvb]at c54
  simp only[sc19r0,sc19r1,sc19r2,sc19r3,sc19,↓rwS,↓rwX,rwZ,rwT,rwG,Nat.reduceEqDiff,Nat.reduceAdd,reduceCtorEq,Nat.reduceLT,hbox,z50,hM2,ldc,callW_ret ext54 c54,Bool.not_false,b50_1,st,ld]
  exact⟨fin _,trivial⟩
 |true=>
  rw[hvb]at c54
  have c55:=cs55 ho hC hok hn hk (vb_vp ho hvb)
  simp only[sc19r0,sc19r1,sc19r2,sc19r3,sc19,↓rwS,↓rwX,rwZ,rwT,rwG,Nat.reduceEqDiff,Nat.reduceAdd,reduceCtorEq,Nat.reduceLT,hbox,z50,hM2,ldc,callW_ret ext54 c54,Bool.not_true,callW_ret ext55 c55,b50_0,st,ld]
  exact⟨fin _,trivial⟩
end
end Go.Proofs

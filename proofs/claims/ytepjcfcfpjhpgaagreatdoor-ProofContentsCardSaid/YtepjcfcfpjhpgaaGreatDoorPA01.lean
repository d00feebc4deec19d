/- What is defined: an interpreter of the model's code over values and memory in part unknown ('Ai'): its values, its operations, its execution. Conditions: none. -/
import Derived.Calls
import Derived.Defers
set_option linter.all false
namespace Go.Ai
open Go
inductive PV where
 |bool (b:Bool)
 |int (k:IntKind) (n:Int)
 |float (k:FloatKind) (b:Nat)
 |str (s:List UInt8)
 |nilp|nils|nilm|nilf|nili
 |fn (f:FuncId)
 |vec (sz:Nat) (xs:List PV)
 |agg (cs:List PV)
 |face (t:TypeId) (v:PV)
 deriving Inhabited
inductive AV where
 |un
 |p (v:PV)
 |ptr (i off:Nat)
 |cptr (v:PV)
 |sl (i g sz off len:Nat)
 |el (i g sz k o:Nat)
 |asl (i off len sz:Nat)
 |full (sz:Nat) (xs:List PV)
 |func (f:FuncId) (first cap:List AV)
 |yield (i:Nat)
 |face (t:TypeId) (v:AV)
 |agg (cs:List AV)
 |tup (vs:List AV)
 |map (i:Nat)
 deriving Inhabited
@[reducible] def undefA:AV:=.tup []
inductive Tm where
 |lf
 |nd (v:AV) (l r:Tm)
 deriving Inhabited
inductive AD where
 |fn (f:FuncId) (args:List AV)
 |coll (i:Nat)
 deriving Inhabited
inductive AL where
 |mk (st:LoopState) (pending:Option Code) (fn:FuncId) (n:Nat) (t:Tm) (params:List Tmp) (assign body:Code) (defers:Nat)
 deriving Inhabited
inductive Ob where
 |dead
 |cells (e:TypeId) (cs:List AV)
 |row (e:TypeId) (sz:Nat) (xs:List PV) (ex:Bool) (g:Nat)
 |fr (sz:Nat) (xs:List PV) (g:Nat)
 |map (es:List (PV×PV))
 |loop (l:AL)
 |defd (taken:Bool)
 |iter (m:Option Nat) (since:Nat) (seen:Bool)
 deriving Inhabited
inductive ExtK where
 |same|sqrt|bits|frombits|overlaps
structure Ctx where
 ext:Nat→Option ExtK
 fn:Nat→Option Func
 info:Nat→Option TypeInfo
 under:Nat→Option TypeDesc
 glob:Nat→Option PV
 lies:TypeId→Nat→Nat→TypeId→Bool
 same:TypeId→TypeId→Bool
 plain:TypeId→Bool
noncomputable def Tm.get(t:Tm):Nat→AV:=
 Tm.rec (fun _=>undefA) (fun v _ _ gl gr n=>Nat.rec v (fun m _=>cond (Nat.beq (Nat.mod m 2) 0) (gl (Nat.div m 2)) (gr (Nat.div m 2))) n) t
noncomputable def Tm.one(k:Nat):Nat→AV→Tm:=
 Nat.rec (fun _ _=>.lf) (fun _ ih n v=>Nat.rec (.nd v .lf .lf) (fun m _=>cond (Nat.beq (Nat.mod m 2) 0) (.nd undefA (ih (Nat.div m 2) v) .lf) (.nd undefA .lf (ih (Nat.div m 2) v))) n) k
noncomputable def Tm.set(t:Tm):Nat→AV→Tm:=
 Tm.rec (fun n v=>Tm.one (n+1) n v) (fun x l r sl sr n v=>Nat.rec (.nd v l r) (fun m _=>cond (Nat.beq (Nat.mod m 2) 0) (.nd x (sl (Nat.div m 2) v) r) (.nd x l (sr (Nat.div m 2) v))) n) t
noncomputable def hget(h:List Ob):Nat→Ob:=
 List.rec (fun _=>.dead) (fun o _ ih n=>Nat.rec o (fun m _=>ih m) n) h
noncomputable def hset(h:List Ob):Nat→Ob→List Ob:=
 List.rec (fun _ _=>[]) (fun o l ih n v=>Nat.rec (v::l) (fun m _=>o::ih m v) n) h
noncomputable def pget(l:List PV):Nat→Option PV:=
 List.rec (fun _=>none) (fun x _ ih n=>Nat.rec (some x) (fun m _=>ih m) n) l
noncomputable def aget(l:List AV):Nat→Option AV:=
 List.rec (fun _=>none) (fun x _ ih n=>Nat.rec (some x) (fun m _=>ih m) n) l
noncomputable def Tm.oneK{R:Type} (k:Nat):Nat→AV→(Tm→R)→R:=
 Nat.rec (motive:=fun _=>Nat→AV→(Tm→R)→R) (fun _ _ f=>f .lf) (fun _ ih n v f=>Nat.rec (motive:=fun _=>R) (f (.nd v .lf .lf)) (fun m _=>cond (Nat.beq (Nat.mod m 2) 0) (ih (Nat.div m 2) v fun x=>f (.nd undefA x .lf)) (ih (Nat.div m 2) v fun x=>f (.nd undefA .lf x))) n) k
noncomputable def Tm.setK{R:Type} (t:Tm):Nat→AV→(Tm→R)→R:=
 Tm.rec (motive:=fun _=>Nat→AV→(Tm→R)→R) (fun n v f=>Tm.oneK (n+1) n v f) (fun x l r sl sr n v f=>Nat.rec (motive:=fun _=>R) (f (.nd v l r)) (fun m _=>cond (Nat.beq (Nat.mod m 2) 0) (sl (Nat.div m 2) v fun y=>f (.nd x y r)) (sr (Nat.div m 2) v fun y=>f (.nd x l y))) n) t
noncomputable def hsetK{R:Type} (h:List Ob):Nat→Ob→(List Ob→R)→R:=
 List.rec (motive:=fun _=>Nat→Ob→(List Ob→R)→R) (fun _ _ f=>f []) (fun o l ih n v f=>Nat.rec (motive:=fun _=>R) (f (v::l)) (fun m _=>ih m v fun l=>f (o::l)) n) h
noncomputable def lnf{α R:Type} (l:List α):(List α→R)→R:=
 List.rec (motive:=fun _=>(List α→R)→R) (fun f=>f []) (fun x _ ih f=>ih fun l=>f (x::l)) l
@[simp] theorem lnf_eq{α R:Type} (l:List α) (f:List α→R):lnf l f=f l:=by
 induction l generalizing f with
 |nil=>rfl
 |cons x l ih=>exact ih fun l=>f (x::l)
@[simp] theorem hsetK_eq{R:Type} (h:List Ob):∀ (n:Nat) (o:Ob) (f:List Ob→R),hsetK h n o f=f (hset h n o):=by
 induction h with
 |nil=>intro n o f;rfl
 |cons x l ih=>
  intro n o f
  cases n with
  |zero=>rfl
  |succ n=>exact ih n o fun l=>f (x::l)
@[simp] theorem Tm.oneK_eq{R:Type} (k:Nat):∀ (n:Nat) (v:AV) (f:Tm→R),Tm.oneK k n v f=f (Tm.one k n v):=by
 induction k with
 |zero=>intro n v f;rfl
 |succ k ih=>
  intro n v f
  cases n with
  |zero=>rfl
  |succ m=>
   show cond (Nat.beq (Nat.mod m 2) 0) (Tm.oneK k (Nat.div m 2) v fun x=>f (.nd undefA x .lf)) (Tm.oneK k (Nat.div m 2) v fun x=>f (.nd undefA .lf x)) =
    f (cond (Nat.beq (Nat.mod m 2) 0) (.nd undefA (Tm.one k (Nat.div m 2) v) .lf) (.nd undefA .lf (Tm.one k (Nat.div m 2) v)))
   rw[ih,ih];cases Nat.beq (Nat.mod m 2) 0<;>rfl
@[simp] theorem Tm.setK_eq{R:Type} (t:Tm):∀ (n:Nat) (v:AV) (f:Tm→R),Tm.setK t n v f=f (Tm.set t n v):=by
 induction t with
 |lf=>intro n v f;exact Tm.oneK_eq (n+1) n v f
 |nd x l r ihl ihr=>
  intro n v f
  cases n with
  |zero=>rfl
  |succ m=>
   show cond (Nat.beq (Nat.mod m 2) 0) (Tm.setK l (Nat.div m 2) v fun y=>f (.nd x y r)) (Tm.setK r (Nat.div m 2) v fun y=>f (.nd x l y)) =
    f (cond (Nat.beq (Nat.mod m 2) 0) (.nd x (Tm.set l (Nat.div m 2) v) r) (.nd x l (Tm.set r (Nat.div m 2) v)))
   rw[ihl,ihr];cases Nat.beq (Nat.mod m 2) 0<;>rfl
def sub?{α:Type} (l:List α) (off n:Nat):Option (List α):=
 cond (Nat.ble (off+n) l.length) (some ((l.drop off).take n)) none
def forceN{α:Type} (n:Nat) (f:Nat→α):α:=Nat.casesOn (motive:=fun _=>α) n (f 0) (fun k=>f (Nat.succ k))
def forceI{α:Type} (n:Int) (f:Int→α):α:=Int.casesOn (motive:=fun _=>α) n (fun m=>forceN m (fun m=>f (.ofNat m))) (fun m=>forceN m (fun m=>f (.negSucc m)))
def wrapF(k:IntKind) (n:Int):Int:=
 match k with
 |.i64=>match n with
  |.ofNat m=>cond (Nat.blt m 9223372036854775808) n (IntKind.wrap .i64 n)
  |.negSucc m=>cond (Nat.blt m 9223372036854775808) n (IntKind.wrap .i64 n)
 |.u8=>match n with
  |.ofNat m=>.ofNat (Nat.mod m 256)
  |.negSucc _=>IntKind.wrap .u8 n
 |.u32=>match n with
  |.ofNat m=>.ofNat (Nat.mod m 4294967296)
  |.negSucc _=>IntKind.wrap .u32 n
 |.u64=>match n with
  |.ofNat m=>.ofNat (Nat.mod m 18446744073709551616)
  |.negSucc _=>IntKind.wrap .u64 n
 |k=>IntKind.wrap k n
def ltI:Int→Int→Bool
 |.ofNat a,.ofNat b=>Nat.blt a b
 |.ofNat _,.negSucc _=>false
 |.negSucc _,.ofNat _=>true
 |.negSucc a,.negSucc b=>Nat.blt b a
def eqI:Int→Int→Bool
 |.ofNat a,.ofNat b=>Nat.beq a b
 |.ofNat _,.negSucc _=>false
 |.negSucc _,.ofNat _=>false
 |.negSucc a,.negSucc b=>Nat.beq a b
theorem p64:(2:Int) ^ 64=18446744073709551616:=by decide
theorem p63:(2:Int) ^ 63=9223372036854775808:=by decide
theorem p32:(2:Int) ^ 32=4294967296:=by decide
theorem p8:(2:Int) ^ 8=256:=by decide
theorem wrap64_eq(n:Int):IntKind.wrap .i64 n=if n % 18446744073709551616 ≥ 9223372036854775808 then n % 18446744073709551616-18446744073709551616 else n % 18446744073709551616:=by
 simp only[IntKind.wrap,IntKind.bits,IntKind.signed,Bool.true_and,Nat.add_one_sub_one,p64,p63,decide_eq_true_eq]
theorem wrapU64_eq(n:Int):IntKind.wrap .u64 n=n % 18446744073709551616:=by
 simp only[IntKind.wrap,IntKind.bits,IntKind.signed,Bool.false_and,p64,Bool.false_eq_true,if_false]
theorem wrapU32_eq(n:Int):IntKind.wrap .u32 n=n % 4294967296:=by
 simp only[IntKind.wrap,IntKind.bits,IntKind.signed,Bool.false_and,p32,Bool.false_eq_true,if_false]
theorem wrapU8_eq(n:Int):IntKind.wrap .u8 n=n % 256:=by
 simp only[IntKind.wrap,IntKind.bits,IntKind.signed,Bool.false_and,p8,Bool.false_eq_true,if_false]
theorem wrapF_eq(k:IntKind) (n:Int):wrapF k n=k.wrap n:=by
 cases k
 case i64=>
  cases n with
  |ofNat m=>
   cases h:Nat.blt m 9223372036854775808 with
   |false=>simp only[wrapF,h,cond]
   |true=>
    have h2:m<9223372036854775808:=Nat.le_of_ble_eq_true h
    simp only[wrapF,h,cond]
    clear h
    rw[wrap64_eq,show Int.ofNat m=(m:Int)from rfl];split<;>omega
  |negSucc m=>
   cases h:Nat.blt m 9223372036854775808 with
   |false=>simp only[wrapF,h,cond]
   |true=>
    have h2:m<9223372036854775808:=Nat.le_of_ble_eq_true h
    simp only[wrapF,h,cond]
    clear h
    rw[wrap64_eq];split<;>omega
 case u8=>cases n with
  |ofNat m=>rw[wrapU8_eq];rfl
  |negSucc m=>rfl
 case u32=>cases n with
  |ofNat m=>rw[wrapU32_eq];rfl
  |negSucc m=>rfl
 case u64=>cases n with
  |ofNat m=>rw[wrapU64_eq];rfl
  |negSucc m=>rfl
 all_goals rfl
theorem blt_dec(a b:Nat):Nat.blt a b=decide (a<b):=by
 rw[Bool.eq_iff_iff];simp [Nat.blt_eq]
theorem ltI_eq(a b:Int):ltI a b=decide (a<b):=by
 cases a<;>cases b<;>simp only[ltI,blt_dec]<;>rw[Bool.eq_iff_iff]<;>simp<;>omega
theorem eqI_eq(a b:Int):eqI a b=decide (a=b):=by
 cases a<;>cases b<;>simp only[eqI]<;>rw[Bool.eq_iff_iff]<;>simp<;>omega
@[simp] theorem forceN_eq{α:Type} (n:Nat) (f:Nat→α):forceN n f=f n:=by cases n<;>rfl
@[simp] theorem forceI_eq{α:Type} (n:Int) (f:Int→α):forceI n f=f n:=by cases n<;>simp [forceI]
def knd:IntKind→Nat
 |.i8=>0 | .i16=>1 | .i32=>2 | .i64=>3 | .u8=>4 | .u16=>5 | .u32=>6 | .u64=>7
theorem knd_inj{j k:IntKind} (h:Nat.beq (knd j) (knd k)=true):j=k:=by
 have:=Nat.eq_of_beq_eq_true h
 cases j<;>cases k<;>first|rfl|(simp [knd]at this)
def beqBytes:List UInt8→List UInt8→Bool
 | [],[]=>true
 |a::l,b::m=>cond (Nat.beq a.toNat b.toNat) (beqBytes l m) false
 |_,_=>false
def PV.cells:PV→List PV
 |.agg cs=>cs
 |v=>[v]
def allP:List AV→Option (List PV)
 | []=>some []
 |.p v::l=>match allP l with|some m=>some (v::m)|none=>none
 |_=>none
def mkAgg(cs:List AV):AV:=
 match allP cs with
 |some ps=>.p (.agg ps)
 |none=>.agg cs
def AV.cells?:AV→Option (List AV)
 |.un=>none
 |.p v=>some (v.cells.map .p)
 |.agg cs=>some cs
 |.tup _=>none
 |v=>some [v]
mutual
def ofV:Value→PV
 |.bool b=>.bool b
 |.int k n=>.int k n
 |.float k b=>.float k b
 |.string s=>.str s.data.toList
 |.nilFunc=>.nilf
 |.nilIface=>.nili
 |.iface t v=>.face t (ofV v)
 |.agg cs=>.agg (ofVs cs.toList)
 |.pointer _=>.nilp
 |.slice _ _ _=>.nils
 |.map _=>.nilm
 |.func (.func f) _ _=>.fn f
 |_=>.nilp
def ofVs:List Value→List PV
 | []=>[]
 |v::l=>ofV v::ofVs l
end
mutual
def okV:Value→Bool
 |.bool _ | .int _ _ | .float _ _ | .string _ | .nilFunc | .nilIface=>true
 |.pointer a=>a.isNone
 |.slice a n c=>a.isNone&&Nat.beq n 0&&Nat.beq c 0
 |.map a=>a.isNone
 |.func (.func _) a b=>a.toList.isEmpty&&b.toList.isEmpty
 |.agg cs=>okVs cs.toList
 |.iface _ v=>okV v
 |_=>false
def okVs:List Value→Bool
 | []=>true
 |v::l=>(match v with | .agg _=>false|_=>true)&&(okV v&&okVs l)
end
def cst(v:Value):AV:=
 match v with
 |.int k n=>.p (.int k n)
 |.bool b=>.p (.bool b)
 |v=>cond (okV v) (.p (ofV v)) .un
end Go.Ai
namespace Go.Ai
inductive Tb (α:Type)where
 |lf
 |nd (v:α) (l r:Tb α)
noncomputable def Tb.get{α:Type} (t:Tb α):Nat→Option α:=
 Tb.rec (fun _=>none) (fun v _ _ gl gr n=>Nat.rec (some v) (fun m _=>cond (Nat.beq (Nat.mod m 2) 0) (gl (Nat.div m 2)) (gr (Nat.div m 2))) n) t
def underOf(info:Nat→Option TypeInfo) (t:Nat):Option TypeDesc:=
 match info t with
 |some i=>(match i.desc with
  |.named _ u=>(match info u with|some j=>some j.desc|none=>none)
  |d=>some d)
 |none=>none
end Go.Ai
namespace Go.Ai
open Go
inductive VH where
  |no
  |w (v:AV)
  |ws (v:AV) (i:Nat) (o:Ob)
  |wn (v:AV) (o:Ob)
  |wh (v:AV) (h:List Ob)
def VH.ofO:Option AV→VH
  |some v=>.w v
  |none=>.no
noncomputable def ev(c:Ctx) (t:Tm) (x:Operand):AV:=
  match x with
  |.tmp i=>t.get i
  |.const v=>cst v
  |.global g=>(match c.glob g with|some p=>.cptr p|none=>.un)
  |.func f=>.p (.fn f)
noncomputable def evs(c:Ctx) (t:Tm):List Operand→List AV
  | []=>[]
  |x::l=>ev c t x::evs c t l
def headA{R:Type} (v:AV) (f:AV→R):R:=
  match v with
  |.un=>f .un | .p v=>f (.p v) | .ptr i o=>f (.ptr i o) | .cptr v=>f (.cptr v) | .sl i g s o n=>f (.sl i g s o n) | .el i g s k o=>f (.el i g s k o) | .asl i o n s=>f (.asl i o n s)
  |.full s xs=>f (.full s xs) | .func g a b=>f (.func g a b) | .yield i=>f (.yield i) | .face t v=>f (.face t v) | .agg l=>f (.agg l) | .tup l=>f (.tup l) | .map i=>f (.map i)
@[simp] theorem headA_eq{R:Type} (v:AV) (f:AV→R):headA v f=f v:=by cases v<;>rfl
noncomputable def evsK{R:Type} (c:Ctx) (t:Tm) (l:List Operand):(List AV→R)→R:=
  List.rec (motive:=fun _=>(List AV→R)→R) (fun f=>f []) (fun x _ ih f=>headA (ev c t x) fun v=>ih fun vs=>f (v::vs)) l
@[simp] theorem evsK_eq{R:Type} (c:Ctx) (t:Tm) (l:List Operand) (f:List AV→R):evsK c t l f=f (evs c t l):=by
  induction l generalizing f with
  |nil=>rfl
  |cons x l ih=>
    show headA (ev c t x) (fun v=>evsK c t l fun vs=>f (v::vs))=_
    rw[headA_eq,ih];rfl
noncomputable def evp(c:Ctx) (t:Tm):List (Nat×Operand)→List (Nat×AV)
  | []=>[]
  | (i,x)::l=>(i,ev c t x)::evp c t l
noncomputable def evo(c:Ctx) (t:Tm):Option Operand→Option AV
  |none=>none
  |some x=>some (ev c t x)
def isAggD:TypeDesc→Bool
  |.struct _ | .array _ _=>true
  |_=>false
def sizeOf?(c:Ctx) (t:TypeId):Option Nat:=match c.info t with|some i=>some i.size|none=>none
def aggT?(c:Ctx) (t:TypeId):Option Bool:=match c.under t with|some d=>some (isAggD d)|none=>none
def zero?(c:Ctx) (t:TypeId):Option PV:=
  match c.info t with
  |some i=>(match i.zero with|some z=>cond (okV z) (some (ofV z)) none|none=>none)
  |none=>none
noncomputable def subK{α R:Type} (l:List α) (off n:Nat) (f:List α→R) (no:R):R:=
  cond (Nat.ble (off+n) l.length) (lnf ((l.drop off).take n) f) no
noncomputable def overK{α R:Type} (l:List α) (off:Nat) (m:List α) (f:List α→R) (no:R):R:=
  cond (Nat.ble (off+m.length) l.length) (lnf (l.take off++(m++l.drop (off+m.length))) f) no
noncomputable def part?(c:Ctx) (t:TypeId) (cs:List PV) (off:Nat):Option PV:=
  match aggT? c t with
  |some true=>(match sizeOf? c t with|some n=>subK cs off n (fun m=>some (.agg m)) none|none=>none)
  |some false=>pget cs off
  |none=>none
noncomputable def partA?(c:Ctx) (t:TypeId) (cs:List AV) (off:Nat):Option AV:=
  match aggT? c t with
  |some true=>(match sizeOf? c t with|some n=>subK cs off n (fun m=>some (mkAgg m)) none|none=>none)
  |some false=>aget cs off
  |none=>none
noncomputable def freezeRow(h:List Ob) (i g sz off len:Nat):Option (PV×List Ob):=
  match hget h i with
  | .row _ sz' xs _ g' => cond (Nat.beq g g' && Nat.beq sz sz')
      (subK xs off len (fun m=>hsetK h i (.fr sz xs g) fun h=>some (.vec sz m,h)) none) none
  | .fr sz' xs g' => cond (Nat.beq g g' && Nat.beq sz sz')
      (subK xs off len (fun m=>some (.vec sz m,h)) none) none
  |_=>none
mutual
noncomputable def pure1(h:List Ob):AV→Option (PV×List Ob)
  |.p v=>some (v,h)
  |.full sz xs=>some (.vec sz xs,h)
  |.sl i g sz off len=>freezeRow h i g sz off len
  |.agg cs=>(match pures h cs with|some (l,h)=>some (.agg l,h)|none=>none)
  |.face t v=>(match pure1 h v with|some (v,h)=>some (.face t v,h)|none=>none)
  |_=>none
noncomputable def pures(h:List Ob):List AV→Option (List PV×List Ob)
  | []=>some ([],h)
  |v::l=>(match pure1 h v with
    |some (v,h)=>(match pures h l with|some (l,h)=>some (v::l,h)|none=>none)
    |none=>none)
end
noncomputable def rowAt(h:List Ob) (i g sz:Nat):Option (List PV):=
  match hget h i with
  |.row _ sz' xs _ g'=>cond (Nat.beq g g'&&Nat.beq sz sz') (some xs) none
  |.fr sz' xs g'=>cond (Nat.beq g g'&&Nat.beq sz sz') (some xs) none
  |_=>none
noncomputable def loadPtr(c:Ctx) (h:List Ob) (t:TypeId) (i off:Nat):Option AV:=
  match hget h i with
  |.cells _ cs=>partA? c t cs off
  |_=>none
def loadC(c:Ctx) (t:TypeId) (p:PV):Option AV:=
  match aggT? c t with
  |some true=>(match p,sizeOf? c t with | .agg cs,some n=>cond (Nat.beq cs.length n) (some (.p p)) none|_,_=>none)
  |some false=>(match p with | .agg _=>none|_=>some (.p p))
  |none=>none
noncomputable def loadEl(c:Ctx) (h:List Ob) (t:TypeId) (i g sz k o:Nat):Option AV:=
  match rowAt h i g sz with
  |some xs=>(match pget xs k with
    |some x=>(match part? c t x.cells o with|some v=>some (.p v)|none=>none)
    |none=>none)
  |none=>none
noncomputable def load?(c:Ctx) (h:List Ob) (t:TypeId):AV→Option AV
  |.ptr i off=>loadPtr c h t i off
  |.cptr p=>loadC c t p
  |.el i g sz k o=>loadEl c h t i g sz k o
  |_=>none
noncomputable def storePtr(h:List Ob) (n:Nat) (i off:Nat) (v:AV):VH:=
  match v.cells? with
  |some vs=>cond (Nat.beq vs.length n) (match hget h i with
    |.cells e cs=>overK cs off vs (fun cs=>.ws undefA i (.cells e cs)) .no
    |_=>.no) .no
  |none=>.no
def reElem(x:PV) (m:List PV):Option PV:=
  match x with
  |.agg _=>some (.agg m)
  |_=>(match m with | [y]=>some y|_=>none)
noncomputable def storeEl(h:List Ob) (n:Nat) (i g sz k o:Nat) (v:AV):VH:=
  match pure1 h v with
  |some (pv,h)=>cond (Nat.beq pv.cells.length n) (match hget h i with
    |.row e sz' xs ex g'=>cond (Nat.beq g g'&&Nat.beq sz sz')
      (match pget xs k with
       |some x=>overK x.cells o pv.cells
         (fun m=>(match reElem x m with|some y=>lnf (xs.set k y) fun xs=>hsetK h i (.row e sz xs ex g) fun h=>.wh undefA h|none=>.no))
         .no
       |none=>.no) .no
    |_=>.no) .no
  |none=>.no
noncomputable def store?(c:Ctx) (h:List Ob) (t:TypeId) (a v:AV):VH:=
  match sizeOf? c t with
  |some n=>(match a with
    |.ptr i off=>storePtr h n i off v
    |.el i g sz k o=>storeEl h n i g sz k o v
    |_=>.no)
  |none=>.no
noncomputable def elemsAsl(h:List Ob) (i off len sz:Nat):Option (List PV):=
  cond (Nat.beq sz 1) (match hget h i with
    |.cells _ cs=>(match sub? cs off len with|some m=>allP m|none=>none)
    |_=>none) none
noncomputable def elemsSl(h:List Ob) (i g sz off len:Nat):Option (List PV):=
  match rowAt h i g sz with|some xs=>sub? xs off len|none=>none
def bytesPV(s:List UInt8):List PV:=s.map fun b=>.int .u8 (.ofNat b.toNat)
noncomputable def elems?(h:List Ob) (x:AV):Option (List PV):=
  match x with
  |.p p=>(match p with
    |.nils=>some []
    |.vec _ xs=>some xs
    |.str s=>some (bytesPV s)
    |_=>none)
  |.full _ xs=>some xs
  |.sl i g sz off len=>elemsSl h i g sz off len
  |.asl i off len sz=>elemsAsl h i off len sz
  |_=>none
def szIs(sz:Nat) (x:AV):Bool:=
  match x with
  |.p p=>(match p with | .nils=>true | .vec s _=>Nat.beq s sz|_=>false)
  |.full s _=>Nat.beq s sz
  |.sl _ _ s _ _=>Nat.beq s sz
  |.asl _ _ _ s=>Nat.beq s sz
  |_=>false
def szIsB(sz:Nat) (x:AV):Bool:=
  match x with
  |.p p=>(match p with | .nils=>true | .vec s _=>Nat.beq s sz | .str _=>Nat.beq sz 1|_=>false)
  |.full s _=>Nat.beq s sz
  |.sl _ _ s _ _=>Nat.beq s sz
  |.asl _ _ _ s=>Nat.beq s sz
  |_=>false
def lenOf?:AV→Option Nat
  |.p p=>(match p with
    |.str s=>some s.length
    |.vec _ xs=>some xs.length
    |.nils=>some 0
    |_=>none)
  |.full _ xs=>some xs.length
  |.sl _ _ _ _ n=>some n
  |.asl _ _ n _=>some n
  |_=>none
noncomputable def newRow(h:List Ob) (e:TypeId) (sz:Nat) (xs:List PV) (ex:Bool) (n:Nat):VH:=
  forceN h.length fun i=>forceN n fun n=>lnf xs fun xs=>.wn (.sl i 0 sz 0 n) (.row e sz xs ex 0)
noncomputable def newRowH(h:List Ob) (e:TypeId) (sz:Nat) (xs:List PV) (ex:Bool) (n:Nat):VH:=
  forceN h.length fun i=>forceN n fun n=>lnf xs fun xs=>lnf (h++[.row e sz xs ex 0]) fun h=>.wh (.sl i 0 sz 0 n) h
noncomputable def appSl(h:List Ob) (e:TypeId) (i g sz off len:Nat) (new:List PV):VH:=
  match hget h i with
  |.row e' sz' xs ex g'=>cond (Nat.beq g g'&&Nat.beq sz sz')
    (cond (Nat.ble (off + len + new.length) xs.length)
      (overK xs (off + len) new
        (fun ys=>forceN (len+new.length) fun n=>.ws (.sl i g sz off n) i (.row e' sz ys ex g))
        .no)
      (cond ex
        (match sub? xs off len with
          |some old=>newRow h e sz (old++new) false (len+new.length)
          |none=>.no)
        (cond (Nat.beq off 0 && Nat.beq len xs.length && Nat.beq e' e)
          (lnf (xs++new) fun ys=>forceN (g+1) fun g=>forceN (len+new.length) fun n=>.ws (.sl i g sz 0 n) i (.row e sz ys false g))
          .no)))
    .no
  |_=>.no
def room(c:Ctx) (e:TypeId) (n:Nat):Bool:=
  match c.info e,zero? c e with
  |some i,some z=>Nat.ble (n*i.bytes) 140737488355328&&(Nat.ble 1 i.bytes&&Nat.beq z.cells.length i.size)
  |_,_=>false
noncomputable def append?(c:Ctx) (h:List Ob) (e:TypeId) (s x:AV):VH:=
  match sizeOf? c e,elems? h x with
  |some sz,some new=>cond (Nat.ble 1 sz&&szIsB sz x)
    (match s with
    |.p p=>(match p with
      |.nils=>(match new with
        | []=>.w s
        |_=>cond (room c e new.length) (newRow h e sz new false new.length) .no)
      |_=>.no)
    |.full sz' xs=>cond (Nat.beq sz sz') (match new with
      | []=>.w s
      |_=>cond (room c e (xs.length+new.length)) (newRow h e sz (xs++new) false (xs.length+new.length)) .no) .no
    |.sl i g sz' off len=>cond (Nat.beq sz sz'&&room c e (len+new.length)) (appSl h e i g sz off len new) .no
    |_=>.no) .no
  |_,_=>.no
def fitsA(a:Bool) (sz:Nat) (v:PV):Bool:=Nat.beq v.cells.length sz&&(match v with | .agg _=>a|_=>!a)
def allFit(a:Bool) (sz:Nat):List PV→Bool
  | []=>true
  |v::l=>cond (fitsA a sz v) (allFit a sz l) false
noncomputable def copy?(h:List Ob) (sz:Nat) (d x:AV):VH:=
  match elems? h x,lenOf? d with
  |some new,some n=>lnf (new.take n) fun m=>forceN m.length fun len=>
    cond (Nat.ble 1 sz&&(szIsB sz x&&szIs sz d)) (match d with
    |.sl i g _ off _=>(match hget h i with
      |.row e sz' xs ex g'=>cond (Nat.beq g g'&&Nat.beq sz sz')
        (overK xs off m (fun ys=>.ws (.p (.int .i64 (.ofNat len))) i (.row e sz ys ex g)) .no) .no
      |_=>.no)
    |.asl i off _ _=>cond (Nat.beq sz 1&&allFit false 1 m) (match hget h i with
      |.cells e cs=>overK cs off (m.map .p) (fun ys=>.ws (.p (.int .i64 (.ofNat len))) i (.cells e ys)) .no
      |_=>.no) .no
    |.p p=>(match p with | .nils=>.w (.p (.int .i64 (.ofNat len)))|_=>.no)
    |_=>.no) .no
  |_,_=>.no
def resI(k:IntKind) (n:Int):VH:=forceI n fun n=>.w (.p (.int k n))
def resB(b:Bool):VH:=cond b (.w (.p (.bool true))) (.w (.p (.bool false)))
def onI(x:AV) (f:IntKind→Int→VH):VH:=
  match x with
  |.p p=>(match p with | .int k n=>f k n|_=>.no)
  |_=>.no
def onII(x y:AV) (f:IntKind→Int→IntKind→Int→VH):VH:=onI x fun k a=>onI y fun j b=>f k a j b
def onKK(x y:AV) (f:IntKind→Int→Int→VH):VH:=onI x fun k a=>onI y fun j b=>cond (Nat.beq (knd k) (knd j)) (f k a b) .no
noncomputable def bAdd(x y:AV):VH:=
  match x with
  |.p p=>(match p with
    |.int k a=>onI y fun j b=>cond (Nat.beq (knd k) (knd j)) (resI k (wrapF k (Int.add a b))) .no
    |.str a=>(match y with
      |.p q=>(match q with | .str b=>cond (Nat.ble (a.length+b.length) 9223372036854775807) (lnf (a++b) fun l=>.w (.p (.str l))) .no|_=>.no)
      |_=>.no)
    |_=>.no)
  |_=>.no
def bSub(x y:AV):VH:=onKK x y fun k a b=>resI k (wrapF k (Int.sub a b))
def bMul(x y:AV):VH:=onKK x y fun k a b=>resI k (wrapF k (Int.mul a b))
def bQuo(x y:AV):VH:=onKK x y fun k a b=>cond (eqI b 0) .no (resI k (wrapF k (a.tdiv b)))
def bRem(x y:AV):VH:=onKK x y fun k a b=>cond (eqI b 0) .no (resI k (a.tmod b))
def bAnd(x y:AV):VH:=onKK x y fun k a b=>resI k (k.wrap ((BitVec.ofInt k.bits a &&& BitVec.ofInt k.bits b).toNat))
def bOr(x y:AV):VH:=onKK x y fun k a b=>resI k (k.wrap ((BitVec.ofInt k.bits a ||| BitVec.ofInt k.bits b).toNat))
def bXor(x y:AV):VH:=onKK x y fun k a b=>resI k (k.wrap ((BitVec.ofInt k.bits a ^^^ BitVec.ofInt k.bits b).toNat))
def bAndNot(x y:AV):VH:=onKK x y fun k a b=>resI k (k.wrap ((BitVec.ofInt k.bits a &&& ~~~ BitVec.ofInt k.bits b).toNat))
def bShl(x y:AV):VH:=onII x y fun k a _ b=>cond (ltI b 0) .no (resI k (wrapF k (a*2 ^ (min b.toNat k.bits))))
def bShr(x y:AV):VH:=onII x y fun k a _ b=>cond (ltI b 0) .no (resI k (a.fdiv (2 ^ (min b.toNat k.bits))))
def ordI(x y:AV) (f:Int→Int→Bool) (g:List UInt8→List UInt8→Bool):VH:=
  match x with
  |.p p=>(match p with
    |.int k a=>onI y fun j b=>cond (Nat.beq (knd k) (knd j)) (resB (f a b)) .no
    |.str a=>(match y with
      |.p q=>(match q with | .str b=>resB (g a b)|_=>.no)
      |_=>.no)
    |_=>.no)
  |_=>.no
def bLss(x y:AV):VH:=ordI x y ltI Op.bytesLess
def bLeq(x y:AV):VH:=ordI x y (fun a b=>!ltI b a) (fun a b=>Op.bytesLess a b || beqBytes a b)
def bGtr(x y:AV):VH:=ordI x y (fun a b=>ltI b a) (fun a b=>!(Op.bytesLess a b || beqBytes a b))
def bGeq(x y:AV):VH:=ordI x y (fun a b=>!ltI a b) (fun a b=>!Op.bytesLess a b)
def isNil:AV→Option Bool
  |.p p=>(match p with
    |.nilp | .nils | .nilm | .nilf | .nili=>some true
    |.vec _ _ | .fn _ | .face _ _=>some false
    |_=>none)
  |.ptr _ _ | .cptr _ | .sl _ _ _ _ _ | .el _ _ _ _ _ | .asl _ _ _ _ | .full _ _ | .func _ _ _ | .yield _ | .face _ _ | .map _=>some false
  |_=>none
def eqPtr(i o j q:Nat):Option Bool:=cond (Nat.beq i j) (some (Nat.beq o q)) none
def eqNil(x y:AV):Option Bool:=
  match isNil x,isNil y with
  |some true,some b=>some b
  |some false,some true=>some false
  |_,_=>none
def shp:AV→Nat
  |.p p=>(match p with
    |.nilp=>1
    |.nils | .vec _ _=>2
    |.nilm=>3
    |.nilf | .fn _=>4
    |.nili | .face _ _=>5
    |_=>0)
  |.ptr _ _ | .cptr _ | .el _ _ _ _ _=>1
  |.sl _ _ _ _ _ | .asl _ _ _ _ | .full _ _=>2
  |.map _=>3
  |.func _ _ _ | .yield _=>4
  |.face _ _=>5
  |_=>0
def eqNilS(k:Nat) (x y:AV):Option Bool:=cond (Nat.beq (shp x) k&&Nat.beq (shp y) k) (eqNil x y) none
mutual
noncomputable def eqT(c:Ctx):Nat→TypeId→PV→PV→Option Bool
  |0,_,_,_=>none
  |k+1,t,x,y=>(match c.under t with
    |some .bool=>(match x,y with | .bool a,.bool b=>some (a == b)|_,_=>none)
    |some (.int _)=>(match x,y with | .int i a,.int j b=>cond (Nat.beq (knd i) (knd j)) (some (eqI a b)) none|_,_=>none)
    |some .string=>(match x,y with | .str a,.str b=>some (beqBytes a b)|_,_=>none)
    |some (.struct fs)=>(match x,y with | .agg a,.agg b=>cond (c.plain t) (eqFs c k fs.toList a b) none|_,_=>none)
    |some (.array n e)=>(match x,y,sizeOf? c e with | .agg a,.agg b,some sz=>eqEs c k e sz a b n 0|_,_,_=>none)
    |_=>none)
noncomputable def eqFs(c:Ctx):Nat→List Field→List PV→List PV→Option Bool
  |0,_,_,_=>none
  |_+1,[],_,_=>some true
  |k+1,f::fs,a,b=>cond (f.name == "_") none (match part? c f.type a f.offset,part? c f.type b f.offset with
    |some x,some y=>(match eqT c k f.type x y with
      |some true=>eqFs c k fs a b
      |r=>r)
    |_,_=>none)
noncomputable def eqEs(c:Ctx):Nat→TypeId→Nat→List PV→List PV→Nat→Nat→Option Bool
  |0,_,_,_,_,_,_=>none
  |_+1,_,_,_,_,0,_=>some true
  |k+1,e,sz,a,b,n+1,i=>(match part? c e a (i*sz),part? c e b (i*sz)with
    |some x,some y=>(match eqT c k e x y with
      |some true=>eqEs c k e sz a b n (i+1)
      |r=>r)
    |_,_=>none)
end
noncomputable def eqAgg(c:Ctx) (t:TypeId) (x y:AV):Option Bool:=
  match x,y with
  |.p p,.p q=>cond (c.plain t) (eqT c 60 t p q) none
  |_,_=>none
def isNili:AV→Bool
  |.p .nili=>true
  |_=>false
noncomputable def eq?(c:Ctx) (t:TypeId) (k:Bool) (x y:AV):Option Bool:=
  match c.under t with
  |some .bool=>(match x,y with
    |.p p,.p q=>(match p,q with | .bool a,.bool b=>some (a == b)|_,_=>none)
    |_,_=>none)
  |some (.pointer e)=>(match x,y,sizeOf? c e with
    |.ptr i o,.ptr j q,some (_+1)=>eqPtr i o j q
    |_,_,_=>eqNilS 1 x y)
  |some (.slice _)=>eqNilS 2 x y
  |some (.map _ _)=>eqNilS 3 x y
  |some (.func _ _ _)=>eqNilS 4 x y
  |some (.interface _)=>cond (isNili x&&isNili y && !k) none (eqNilS 5 x y)
  |some (.struct _)=>eqAgg c t x y
  |some (.array _ _)=>eqAgg c t x y
  |_=>none
noncomputable def bEql(c:Ctx) (t:TypeId) (k:Bool) (x y:AV):VH:=
  match x with
  |.p p=>(match p with
    |.int _ _=>ordI x y eqI beqBytes
    |.str _=>ordI x y eqI beqBytes
    |_=>(match eq? c t k x y with|some b=>resB b|none=>.no))
  |_=>(match eq? c t k x y with|some b=>resB b|none=>.no)
noncomputable def bNeq(c:Ctx) (t:TypeId) (k:Bool) (x y:AV):VH:=
  match x with
  |.p p=>(match p with
    |.int _ _=>ordI x y (fun a b=>!eqI a b) (fun a b=>!beqBytes a b)
    |.str _=>ordI x y (fun a b=>!eqI a b) (fun a b=>!beqBytes a b)
    |_=>(match eq? c t k x y with|some b=>resB (!b)|none=>.no))
  |_=>(match eq? c t k x y with|some b=>resB (!b)|none=>.no)
noncomputable def bin2:BinOp→Ctx→TypeId→Bool→AV→AV→VH
  |.add=>fun _ _ _=>bAdd | .sub=>fun _ _ _=>bSub | .mul=>fun _ _ _=>bMul | .quo=>fun _ _ _=>bQuo | .rem=>fun _ _ _=>bRem
  |.and=>fun _ _ _=>bAnd | .or=>fun _ _ _=>bOr | .xor=>fun _ _ _=>bXor | .shl=>fun _ _ _=>bShl | .shr=>fun _ _ _=>bShr | .andNot=>fun _ _ _=>bAndNot
  |.eql=>bEql | .neq=>bNeq | .lss=>fun _ _ _=>bLss | .leq=>fun _ _ _=>bLeq | .gtr=>fun _ _ _=>bGtr | .geq=>fun _ _ _=>bGeq
def un1:UnOp→AV→VH
  |.neg=>fun x=>onI x fun k n=>resI k (wrapF k (Int.sub 0 n))
  |.xor=>fun x=>onI x fun k n=>resI k (k.wrap ((BitVec.ofInt k.bits (if k.signed then -1 else k.max) ^^^ BitVec.ofInt k.bits n).toNat))
  |.not=>fun x=>(match x with | .p p=>(match p with | .bool b=>resB (!b)|_=>.no)|_=>.no)
  |.plus=>fun _=>.no
def bytesOf:List PV→Option (List UInt8)
  | []=>some []
  |v::l=>(match v with
    |.int .u8 n=>(match bytesOf l with|some m=>some (UInt8.ofNat n.toNat::m)|none=>none)
    |_=>none)
def convP(c:Ctx) (dst:TypeId) (x:AV):VH:=
  match c.under dst with
  |some (.int k)=>onI x fun _ n=>resI k (wrapF k n)
  |some .string=>(match x with | .p p=>(match p with | .str _=>.w x|_=>.no)|_=>.no)
  |_=>.no
def isByteT(c:Ctx) (t:TypeId):Bool:=match c.under t with|some (.int .u8)=>true|_=>false
noncomputable def convUp(c:Ctx) (h:List Ob) (t:TypeId) (x:AV):VH:=
  match x with
  |.ptr i off=>(match hget h i,sizeOf? c t with
    |.cells _ cs,some (_+1)=>cond (Nat.blt off cs.length) (.w x) .no
    |_,_=>.no)
  |_=>.no
noncomputable def convDown(c:Ctx) (h:List Ob) (u:TypeId) (x:AV):VH:=
  match x with
  |.ptr i off=>(match hget h i,sizeOf? c u with
    |.cells e cs,some (_+1)=>cond (c.lies e cs.length off u) (.w x) .no
    |_,_=>.no)
  |_=>.no
noncomputable def convH(c:Ctx) (h:List Ob) (src dst:TypeId) (x:AV):VH:=
  match c.under src,c.under dst with
  |some (.pointer t),some .unsafePointer=>convUp c h t x
  |some .unsafePointer,some (.pointer u)=>convDown c h u x
  |some .string,some (.slice e)=>(match x with
    |.p p=>(match p with
      |.str b=>cond (isByteT c e) (cond (Nat.beq e 5) (newRow h e 1 (bytesPV b) false b.length) (lnf (bytesPV b) fun xs=>.w (.p (.vec 1 xs)))) .no
      |_=>.no)
    |_=>.no)
  |some (.slice e),some .string=>cond (isByteT c e&&szIs 1 x) (match elems? h x with
    |some l=>(match bytesOf l with|some b=>lnf b fun b=>.w (.p (.str b))|none=>.no)
    |none=>.no) .no
  |_,_=>.no
noncomputable def conv(c:Ctx) (h:List Ob) (src dst:TypeId) (x:AV):VH:=
  match c.under src with
  |some _=>(match convP c dst x with
    |.no=>convH c h src dst x
    |r=>r)
  |none=>.no
noncomputable def fillP(place:Nat→Option (Nat×Nat)) (cells:List AV):List (Nat×AV)→Option (List AV)
  | []=>some cells
  | (i,v)::rest=>(match place i,v.cells? with
    |some (off,size),some vs=>cond (Nat.beq vs.length size)
      (overK cells off vs (fun cells=>fillP place cells rest) none) none
    |_,_=>none)
def fplace(c:Ctx) (fields:Array Field) (i:Nat):Option (Nat×Nat):=
  match fields[i]? with
  |some f=>(match sizeOf? c f.type with|some s=>some (f.offset,s)|none=>none)
  |none=>none
def allSized(c:Ctx):List Field→Bool
  | []=>true
  |f::l=>(match c.info f.type with|some _=>allSized c l|none=>false)
noncomputable def build?(c:Ctx) (t:TypeId) (parts:List (Nat×AV)):Option AV:=
  match zero? c t,c.under t with
  |some z,some (.struct fields)=>cond (allSized c fields.toList) (match fillP (fplace c fields) (z.cells.map .p) parts with|some m=>some (mkAgg m)|none=>none) none
  |some z,some (.array _ e)=>(match sizeOf? c e with
    |some s=>(match fillP (fun i=>some (i*s,s)) (z.cells.map .p) parts with|some m=>some (mkAgg m)|none=>none)
    |none=>none)
  |_,_=>none
noncomputable def setAll(xs:List PV):List (Nat×PV)→Option (List PV)
  | []=>some xs
  | (i,v)::l=>cond (Nat.blt i xs.length) (lnf (xs.set i v) fun xs=>setAll xs l) none
noncomputable def pureParts(h:List Ob):List (Nat×AV)→Option (List (Nat×PV)×List Ob)
  | []=>some ([],h)
  | (i,v)::l=>(match pure1 h v with
    |some (v,h)=>(match pureParts h l with|some (l,h)=>some ((i,v)::l,h)|none=>none)
    |none=>none)
def allFit2(a:Bool) (sz:Nat):List (Nat×PV)→Bool
  | []=>true
  | (_,v)::l=>cond (fitsA a sz v) (allFit2 a sz l) false
def zeros?(c:Ctx) (e:TypeId) (n:Nat):Option (List PV):=
  match n with
  |0=>some []
  |n+1=>(match zero? c e with|some z=>some (List.replicate (n+1) z)|none=>none)
noncomputable def buildSlice?(c:Ctx) (h:List Ob) (t:TypeId) (n:Nat) (parts:List (Nat×AV)):VH:=
  match c.under t with
  |some (.slice e)=>(match sizeOf? c e,aggT? c e,pureParts h parts,zeros? c e n with
    |some (sz+1),some a,some (ps,h),some zs=>
      cond (Nat.ble (n*(sz+1)) 16777216&&allFit2 a (sz+1) ps&&allFit a (sz+1) zs)
        (match setAll zs ps with
         |some xs=>(match parts with | []=>newRow h e (sz+1) xs true n|_=>newRowH h e (sz+1) xs true n)
         |none=>.no) .no
    |_,_,_,_=>.no)
  |_=>.no
noncomputable def makeSlice?(c:Ctx) (h:List Ob) (t:TypeId) (len cap:AV):VH:=
  match c.under t with
  |some (.slice e)=>onII len cap fun _ l _ m=>
    (match c.info e,zero? c e,aggT? c e with
    |some i,some z,some a=>
      cond (!ltI l 0 && !ltI m l && !ltI 140737488355328 (Int.mul i.bytes m)&&Nat.ble 1 i.bytes&&Nat.ble 1 i.size&&fitsA a i.size z)
        (newRow h e i.size (List.replicate m.toNat z) true l.toNat) .no
    |_,_,_=>.no)
  |_=>.no
def fieldOf(c:Ctx) (s:TypeId) (f:Nat):Option Field:=
  match c.under s with
  |some (.struct fs)=>fs[f]?
  |_=>none
noncomputable def fieldAddr?(c:Ctx) (s:TypeId) (x:AV) (f:Nat):Option AV:=
  match fieldOf c s f with
  |some fd=>(match sizeOf? c fd.type with
    |some (_+1)=>(match x with
      |.ptr i off=>forceN (off+fd.offset) fun o=>some (.ptr i o)
      |.cptr p=>(match part? c fd.type p.cells fd.offset with|some v=>some (.cptr v)|none=>none)
      |.el i g sz k o=>forceN (o+fd.offset) fun o=>some (.el i g sz k o)
      |_=>none)
    |_=>none)
  |none=>none
noncomputable def field?(c:Ctx) (s:TypeId) (x:AV) (f:Nat):Option AV:=
  match fieldOf c s f with
  |some fd=>(match x with
    |.p p=>(match p with
      |.agg cs=>(match part? c fd.type cs fd.offset with|some v=>some (.p v)|none=>none)
      |_=>none)
    |.agg cs=>partA? c fd.type cs fd.offset
    |_=>none)
  |none=>none
def inB(ix:AV) (n:Nat):Option Nat:=
  match ix with
  |.p p=>(match p with
    |.int _ i=>(match i with
      |.ofNat k=>cond (Nat.blt k n) (some k) none
      |.negSucc _=>none)
    |_=>none)
  |_=>none
noncomputable def idxVec(ix:AV) (s sz:Nat) (xs:List PV):Option AV:=
  cond (Nat.beq s sz) (match inB ix xs.length with
    |some k=>(match pget xs k with|some x=>some (.cptr x)|none=>none)
    |none=>none) none
noncomputable def idxSlice(sz:Nat) (x ix:AV):Option AV:=
  match x with
  |.sl i g s off len=>cond (Nat.beq s sz) (match inB ix len with|some k=>forceN (off+k) fun k=>some (.el i g s k 0)|none=>none) none
  |.asl i off len s=>cond (Nat.beq s sz) (match inB ix len with|some k=>forceN (off+k*sz) fun k=>some (.ptr i k)|none=>none) none
  |.p p=>(match p with | .vec s xs=>idxVec ix s sz xs|_=>none)
  |.full s xs=>idxVec ix s sz xs
  |_=>none
noncomputable def idxArr(c:Ctx) (e:TypeId) (n sz:Nat) (x ix:AV):Option AV:=
  match inB ix n with
  |some k=>(match x with
    |.ptr i off=>forceN (off+k*sz) fun k=>some (.ptr i k)
    |.el i g s j o=>forceN (o+k*sz) fun k=>some (.el i g s j k)
    |.cptr p=>(match part? c e p.cells (k*sz)with|some v=>some (.cptr v)|none=>none)
    |_=>none)
  |none=>none
noncomputable def indexAddr?(c:Ctx) (t:TypeId) (x ix:AV):Option AV:=
  match c.under t with
  |some (.array n e)=>(match sizeOf? c e with|some (sz+1)=>idxArr c e n (sz+1) x ix|_=>none)
  |some (.slice e)=>(match sizeOf? c e with|some (sz+1)=>idxSlice (sz+1) x ix|_=>none)
  |_=>none
def byteAt(s:List UInt8):Nat→Option AV
  |k=>(match s.drop k with|b::_=>forceN b.toNat fun b=>some (.p (.int .u8 (.ofNat b))) | []=>none)
noncomputable def index?(c:Ctx) (t:TypeId) (x ix:AV):Option AV:=
  match c.under t with
  |some .string=>(match x with
    |.p p=>(match p with
      |.str s=>(match inB ix s.length with|some k=>byteAt s k|none=>none)
      |_=>none)
    |_=>none)
  |some (.array n e)=>(match inB ix n,sizeOf? c e with
    |some k,some sz=>(match x with
      |.p p=>(match p with
        |.agg cs=>(match part? c e cs (k*sz)with|some v=>some (.p v)|none=>none)
        |_=>none)
      |.agg cs=>partA? c e cs (k*sz)
      |_=>none)
    |_,_=>none)
  |_=>none
def bnd(x:Option AV) (dflt most:Nat):Option Nat:=
  match x with
  |none=>some dflt
  |some v=>inB v (most+1)
def bnds(lo hi:Option AV) (len most:Nat) (f:Nat→Nat→Option AV):Option AV:=
  match bnd hi len most with
  |some h=>(match bnd lo 0 h with|some l=>f l h|none=>none)
  |none=>none
noncomputable def slice2(c:Ctx) (t:TypeId) (x:AV) (more:Nat) (lo hi:Option AV):Option AV:=
  match c.under t with
  |some .string=>(match x with
    |.p p=>(match p with
      |.str s=>bnds lo hi s.length s.length fun l h=>lnf ((s.take h).drop l) fun s=>some (.p (.str s))
      |_=>none)
    |_=>none)
  |some (.slice e)=>(match sizeOf? c e with
    |some (sz+1)=>(match x with
      |.p p=>(match p with
        |.nils=>bnds lo hi 0 0 fun _ _=>some x
        |.vec s xs=>cond (Nat.beq s (sz+1)) (bnds lo hi xs.length xs.length fun l h=>lnf ((xs.take h).drop l) fun xs=>some (.p (.vec s xs))) none
        |_=>none)
      |.full s xs=>cond (Nat.beq s (sz+1)) (bnds lo hi xs.length xs.length fun l h=>cond (Nat.beq l h) none (lnf ((xs.take h).drop l) fun xs=>some (.p (.vec s xs)))) none
      |.sl i g s off len=>cond (Nat.beq s (sz+1)) (bnds lo hi len (len+more) fun l h=>cond (Nat.beq l (len+more)&&Nat.blt 0 l) (some (.p (.vec s []))) (forceN (off+l) fun o=>forceN (h-l) fun n=>some (.sl i g s o n))) none
      |.asl i off len s=>cond (Nat.beq s (sz+1)) (bnds lo hi len len fun l h=>cond (Nat.beq l len&&Nat.blt 0 l) (some (.p (.vec s []))) (forceN (off+l*s) fun o=>forceN (h-l) fun n=>some (.asl i o n s))) none
      |_=>none)
    |_=>none)
  |some (.array n e)=>(match sizeOf? c e with
    |some (sz+1)=>(match x with
      |.ptr i off=>bnds lo hi n n fun l h=>cond (Nat.beq l n&&Nat.blt 0 l) (some (.p (.vec (sz+1) []))) (forceN (off+l*(sz+1)) fun o=>forceN (h-l) fun n=>forceN (sz+1) fun s=>some (.asl i o n s))
      |.cptr p=>cond (Nat.beq (sz+1) 1&&Nat.beq p.cells.length n) (bnds lo hi n n fun l h=>lnf ((p.cells.take h).drop l) fun xs=>some (.p (.vec 1 xs))) none
      |_=>none)
    |_=>none)
  |_=>none
noncomputable def slice3(c:Ctx) (t:TypeId) (x:AV) (lo hi:Option AV) (mx:AV):Option AV:=
  match c.under t,hi with
  |some (.slice e),some hi=>(match sizeOf? c e with
    |some (sz+1)=>(match x with
      |.p p=>(match p with
        |.nils=>(match inB mx 1 with
          |some m=>bnds lo (some hi) 0 m fun _ _=>some x
          |none=>none)
        |.vec s xs=>cond (Nat.beq s (sz+1)) (match inB mx (xs.length+1)with
          |some m=>bnds lo (some hi) 0 m fun l h=>cond (Nat.beq h m) (lnf ((xs.take h).drop l) fun xs=>some (.full s xs)) (some .un)
          |none=>none) none
        |_=>none)
      |.sl _ _ s _ len=>cond (Nat.beq s (sz+1)) (match inB mx (len+1)with
        |some m=>bnds lo (some hi) 0 m fun l h=>cond (Nat.beq h m&&Nat.beq h l) (some (.full s [])) (some .un)
        |none=>none) none
      |_=>none)
    |_=>none)
  |_,_=>none
noncomputable def moreOf(h:List Ob):AV→Nat
  |.sl i g s off len=>(match rowAt h i g s with|some xs=>xs.length-off-len|none=>0)
  |_=>0
def lenP(c:Ctx) (t:TypeId) (x:AV):Option AV:=
  match c.under t with
  |some (.array n _)=>some (.p (.int .i64 (.ofNat n)))
  |some (.pointer a)=>(match c.under a with|some (.array n _)=>some (.p (.int .i64 (.ofNat n)))|_=>none)
  |some .string=>(match x with | .p p=>(match p with | .str s=>forceN s.length (fun n=>some (.p (.int .i64 (.ofNat n))))|_=>none)|_=>none)
  |some (.slice _)=>(match x with
    |.p (.str _)=>none
    |_=>(match lenOf? x with|some n=>forceN n (fun n=>some (.p (.int .i64 (.ofNat n))))|none=>none))
  |_=>none
noncomputable def lenM(c:Ctx) (h:List Ob) (t:TypeId) (x:AV):Option AV:=
  match c.under t with
  |some (.map _ _)=>(match x with
    |.p p=>(match p with | .nilm=>some (.p (.int .i64 0))|_=>none)
    |.map i=>(match hget h i with | .map es=>forceN es.length (fun n=>some (.p (.int .i64 (.ofNat n))))|_=>none)
    |_=>none)
  |_=>none
def eqKey(k q:PV):Option Bool:=
  match k,q with
  |.int i a,.int j b=>cond (Nat.beq (knd i) (knd j)) (some (eqI a b)) none
  |.str a,.str b=>some (beqBytes a b)
  |_,_=>none
def findKey(k:PV):List (PV×PV)→Nat→Option (Option (Nat×PV))
  | [],_=>some none
  | (q,v)::es,i=>(match eqKey k q with
    |some true=>some (some (i,v))
    |some false=>findKey k es (i+1)
    |none=>none)
noncomputable def entries?(h:List Ob) (x:AV):Option (List (PV×PV)):=
  match x with
  |.p p=>(match p with | .nilm=>some []|_=>none)
  |.map i=>(match hget h i with | .map es=>some es|_=>none)
  |_=>none
def keyOk(c:Ctx) (kt:TypeId) (k:PV):Bool:=
  match c.under kt,k with
  |some (.int j),.int j' _=>j == j'
  |some .string,.str _=>true
  |_,_=>false
def resOk(ok:Bool) (v:PV) (b:Bool):AV:=cond ok (.tup [.p v,.p (.bool b)]) (.p v)
noncomputable def lookup?(c:Ctx) (h:List Ob) (t:TypeId) (x k:AV) (ok:Bool):Option AV:=
  match c.under t with
  |some (.map kt e)=>(match k,entries? h x,zero? c e with
    |.p k,some es,some z=>cond (keyOk c kt k) (match findKey k es 0 with
      |some (some (_,v))=>some (resOk ok v true)
      |some none=>some (resOk ok z false)
      |none=>none) none
    |_,_,_=>none)
  |_=>none
noncomputable def mapSet(h:List Ob) (i:Nat) (k v:PV):VH:=
  match hget h i with
  |.map es=>(match findKey k es 0 with
    |some (some (j,_))=>(match es[j]? with|some (q,_)=>lnf (es.set j (q,v)) fun es=>hsetK h i (.map es) fun h=>.wh undefA h|none=>.no)
    |some none=>lnf (es++[(k,v)]) fun es=>hsetK h i (.map es) fun h=>.wh undefA h
    |none=>.no)
  |_=>.no
noncomputable def mapUpdate?(c:Ctx) (h:List Ob) (t:TypeId) (m k v:AV):VH:=
  match c.under t,m,k with
  |some (.map kt _),.map i,.p k=>cond (keyOk c kt k) (match pure1 h v with
    |some (v,h)=>mapSet h i k v
    |none=>.no) .no
  |_,_,_=>.no
def mm(mx:Bool) (x y:AV):VH:=onKK x y fun k a b=>.w (.p (.int k (cond (cond mx (ltI a b) (ltI b a)) b a)))
def assertT(c:Ctx) (ty:TypeId) (ok:Bool) (ty':TypeId) (v:AV):Option AV:=
  cond (Nat.beq ty' ty) (some (cond ok (.tup [v,.p (.bool true)]) v))
    (cond ok (match zero? c ty with|some z=>some (.tup [.p z,.p (.bool false)])|none=>none) none)
def typeAssert?(c:Ctx) (ty:TypeId) (ok:Bool) (x:AV):Option AV:=
  match c.under ty with
  |some (.interface _)=>none
  |some _=>(match x with
    |.p p=>(match p with | .face ty' v=>assertT c ty ok ty' (.p v)|_=>none)
    |.face ty' v=>assertT c ty ok ty' v
    |_=>none)
  |none=>none
def mkFace(c:Ctx) (ty:TypeId) (x:AV):Option AV:=
  match c.under ty with
  |some (.interface _)=>none
  |some _=>(match x with
    |.un=>none
    |.p v=>some (.p (.face ty v))
    |v=>some (.face ty v))
  |none=>none
noncomputable def clear?(c:Ctx) (h:List Ob) (el:TypeId) (x:AV):VH:=
  match x with
  |.p p=>(match p with | .nils=>.w undefA|_=>.no)
  |.sl i g sz off n=>(match n with
    |0=>.w undefA
    |_=>(match hget h i,zero? c el,aggT? c el with
      |.row e' sz' xs ex g',some z,some a=>cond (Nat.beq g g'&&Nat.beq sz sz'&&fitsA a sz z)
        (overK xs off (List.replicate n z) (fun ys=>.ws undefA i (.row e' sz ys ex g)) .no) .no
      |_,_,_=>.no))
  |_=>.no
def sdata(x:AV):Option AV:=
  match x with
  |.p p=>(match p with | .nils=>some (.p .nilp)|_=>none)
  |.sl i g sz off n=>(match n with|0=>none|_=>some (.el i g sz off 0))
  |_=>none
def isOne(c:Ctx) (t:TypeId):Bool:=match sizeOf? c t with|some n=>Nat.beq n 1|none=>false
noncomputable def ustring(c:Ctx) (h:List Ob) (u:TypeId) (x n:AV):VH:=
  onI n fun _ n=>(match n with
    |.ofNat n=>(match n with
      |0=>cond (Nat.beq (shp x) 1) (.w (.p (.str []))) .no
      |n+1=>(match x with
        |.el i g sz k o=>(match hget h i with
          |.row el sz' xs _ g'=>cond (Nat.beq g g'&&Nat.beq sz 1&&Nat.beq sz' 1&&Nat.beq o 0&&c.same el u&&isOne c el&&Nat.ble (n+1) 9223372036854775807)
            (match sub? xs k (n+1)with
             |some m=>(match bytesOf m with|some b=>lnf b fun b=>.ws (.p (.str b)) i (.fr 1 xs g)|none=>.no)
             |none=>.no) .no
          |_=>.no)
        |_=>.no))
    |.negSucc _=>.no)
abbrev OpF:=Ctx→Tm→List Ob→VH
noncomputable def oMove(x:Operand):OpF:=fun c t _=>.w (ev c t x)
noncomputable def oPick(k a b:Operand):OpF:=fun c t _=>match ev c t k with
  |.p p=>(match p with | .bool z=>.w (cond z (ev c t a) (ev c t b))|_=>.no)
  |_=>.no
noncomputable def oAlloc(el:TypeId):OpF:=fun c _ h=>match zero? c el with|some z=>forceN h.length fun n=>lnf (z.cells.map .p) fun cs=>.wn (.ptr n 0) (.cells el cs)|none=>.no
noncomputable def oBox(el:TypeId) (x:Operand):OpF:=fun c t h=>match(ev c t x).cells? with|some cs=>forceN h.length fun n=>lnf cs fun cs=>.wn (.ptr n 0) (.cells el cs)|none=>.no
noncomputable def oBuild(ty:TypeId) (parts:Array (Nat×Operand)):OpF:=fun c t _=>.ofO (build? c ty (evp c t parts.toList))
noncomputable def oBuildSlice(ty:TypeId) (n:Nat) (parts:Array (Nat×Operand)):OpF:=fun c t h=>buildSlice? c h ty n (evp c t parts.toList)
noncomputable def oLoad(ty:TypeId) (a:Operand):OpF:=fun c t h=>.ofO (load? c h ty (ev c t a))
noncomputable def oStore(ty:TypeId) (a v:Operand):OpF:=fun c t h=>store? c h ty (ev c t a) (ev c t v)
noncomputable def oNilCheck(x:Operand):OpF:=fun c t _=>match isNil (ev c t x)with|some false=>.w (ev c t x)|_=>.no
def isConst:Operand→Bool
  |.const _=>true
  |_=>false
def fkn:FloatKind→Nat
  |.f32=>0 | .f64=>1
def resF(k:FloatKind) (r:Option Nat):VH:=match r with|some r=>forceN r fun r=>.w (.p (.float k r))|none=>.no
def binFl(op:BinOp) (k:FloatKind) (a b:Nat):VH:=
  match op with
  |.add=>resF k (k.format.add a b)
  |.sub=>resF k (k.format.sub a b)
  |.mul=>resF k (k.format.mul a b)
  |.quo=>resF k (k.format.div a b)
  |.eql=>resB (k.format.order a b == some .eq)
  |.neq=>resB (k.format.order a b != some .eq)
  |.lss=>resB (k.format.order a b == some .lt)
  |.leq=>resB (k.format.order a b == some .lt || k.format.order a b == some .eq)
  |.gtr=>resB (k.format.order a b == some .gt)
  |.geq=>resB (k.format.order a b == some .gt || k.format.order a b == some .eq)
  |_=>.no
def floatOf:AV→Option (FloatKind×Nat)
  |.p p=>(match p with | .float k a=>some (k,a)|_=>none)
  |_=>none
noncomputable def bin3(op:BinOp) (c:Ctx) (ty:TypeId) (k:Bool) (x y:AV):VH:=
  match floatOf x with
  |none=>bin2 op c ty k x y
  |some (j,a)=>(match floatOf y with
    |some (k,b)=>cond (Nat.beq (fkn j) (fkn k)) (binFl op j a b) .no
    |none=>.no)
def floatToI(k:FloatKind) (a:Nat) (d:IntKind):VH:=
  match(k.decode a).toInt .zero with
  |some n=>cond (decide (d.min≤n)&&decide (n≤d.max)) (resI d n) .no
  |none=>.no
noncomputable def conv3(c:Ctx) (h:List Ob) (src dst:TypeId) (x:AV):VH:=
  match floatOf x with
  |some (k,a)=>(match c.under src,c.under dst with
    |some _,some (.int d)=>floatToI k a d
    |_,_=>.no)
  |none=>(match c.under src,c.under dst with
    |some _,some (.float k)=>(match x with
      |.p p=>(match p with | .int _ n=>forceN (k.nearest n) fun r=>.w (.p (.float k r))|_=>.no)
      |_=>.no)
    |_,_=>conv c h src dst x)
noncomputable def oBin(op:BinOp) (ty:TypeId) (x y:Operand):OpF:=fun c t _=>bin3 op c ty (isConst x || isConst y) (ev c t x) (ev c t y)
noncomputable def oUn(op:UnOp) (x:Operand):OpF:=fun c t _=>un1 op (ev c t x)
noncomputable def oConvert(s d:TypeId) (x:Operand):OpF:=fun c t h=>conv3 c h s d (ev c t x)
noncomputable def oFace(ty:TypeId) (x:Operand):OpF:=fun c t _=>.ofO (mkFace c ty (ev c t x))
noncomputable def oMakeFunc(fn:Fn) (first cap:Array Operand):OpF:=match fn with
  |.func f=>(match first.toList,cap.toList with
    | [],[]=>fun _ _ _=>.w (.p (.fn f))
    |a,b=>fun c t _=>.w (.func f (evs c t a) (evs c t b)))
  |_=>fun _ _ _=>.no
noncomputable def oMakeMap(r:Option Operand):OpF:=match r with
  |none=>fun _ _ h=>forceN h.length fun n=>.wn (.map n) (.map [])
  |some _=>fun _ _ _=>.no
noncomputable def rangeV(c:Ctx) (h:List Ob) (ty:TypeId) (x:AV):VH:=
  match c.under ty with
  |some (.map _ _)=>(match x with
    |.p p=>(match p with | .nilm=>forceN h.length fun n=>.wn (.ptr n 0) (.iter none 0 false)|_=>.no)
    |.map i=>(match hget h i with | .map es=>forceN es.length fun k=>forceN h.length fun n=>.wn (.ptr n 0) (.iter (some i) k false)|_=>.no)
    |_=>.no)
  |_=>.no
def nextMap(es:List (PV×PV)) (r i since:Nat) (seen:Bool):VH:=
  match es with
  | []=>cond seen .no (.w (.tup [.p (.bool false)]))
  | (k,v)::l=>(match l with
    | []=>cond seen (.w (.tup [.p (.bool false)])) (cond (Nat.beq since 0) .no (.ws (.tup [.p (.bool true),.p k,.p v]) r (.iter (some i) since true)))
    |_=>.no)
noncomputable def nextV(h:List Ob) (x:AV):VH:=
  match x with
  |.ptr r o=>(match o with
    |0=>(match hget h r with
      |.iter m since seen=>(match m with
        |none=>.w (.tup [.p (.bool false)])
        |some i=>(match hget h i with | .map es=>nextMap es r i since seen|_=>.no))
      |_=>.no)
    |_=>.no)
  |_=>.no
noncomputable def entryV(h:List Ob) (x:AV):VH:=
  match x with
  |.ptr r o=>(match o with
    |0=>(match hget h r with
      |.iter m _ seen=>(match m with
        |none=>.no
        |some i=>(match hget h i with
          |.map es=>(match es with
            | []=>.no
            | (k,v)::l=>(match l with
              | []=>cond seen (.w (.tup [.p k,.p v])) .no
              |_=>.no))
          |_=>.no))
      |_=>.no)
    |_=>.no)
  |_=>.no
noncomputable def oEntry(x:Operand):OpF:=fun c t h=>entryV h (ev c t x)
noncomputable def oRange(ty:TypeId) (x:Operand):OpF:=fun c t h=>rangeV c h ty (ev c t x)
noncomputable def oNext(x:Operand) (isString:Bool):OpF:=match isString with
  |true=>fun _ _ _=>.no
  |false=>fun c t h=>nextV h (ev c t x)
noncomputable def oMakeSlice(ty:TypeId) (l m:Operand):OpF:=fun c t h=>makeSlice? c h ty (ev c t l) (ev c t m)
noncomputable def oSlice(ty:TypeId) (x:Operand) (lo hi mx:Option Operand):OpF:=match mx with
  |none=>fun c t h=>(match slice2 c ty (ev c t x) 0 (evo c t lo) (evo c t hi)with
    |some v=>.w v
    |none=>.ofO (slice2 c ty (ev c t x) (moreOf h (ev c t x)) (evo c t lo) (evo c t hi)))
  |some m=>fun c t _=>.ofO (slice3 c ty (ev c t x) (evo c t lo) (evo c t hi) (ev c t m))
noncomputable def oFieldAddr(s:TypeId) (x:Operand) (f:Nat):OpF:=fun c t _=>.ofO (fieldAddr? c s (ev c t x) f)
noncomputable def oField(s:TypeId) (x:Operand) (f:Nat):OpF:=fun c t _=>.ofO (field? c s (ev c t x) f)
noncomputable def oIndexAddr(ty:TypeId) (x ix:Operand):OpF:=fun c t _=>.ofO (indexAddr? c ty (ev c t x) (ev c t ix))
noncomputable def oIndex(ty:TypeId) (x ix:Operand):OpF:=fun c t _=>.ofO (index? c ty (ev c t x) (ev c t ix))
noncomputable def oLookup(ty:TypeId) (x k:Operand) (ok:Bool):OpF:=fun c t h=>.ofO (lookup? c h ty (ev c t x) (ev c t k) ok)
noncomputable def oMapUpdate(ty:TypeId) (m k v:Operand):OpF:=fun c t h=>mapUpdate? c h ty (ev c t m) (ev c t k) (ev c t v)
noncomputable def oAssert(x:Operand) (ty:TypeId) (ok:Bool):OpF:=fun c t _=>.ofO (typeAssert? c ty ok (ev c t x))
noncomputable def oExtract(x:Operand) (i:Nat):OpF:=fun c t _=>match ev c t x with | .tup vs=>.ofO (aget vs i)|_=>.no
noncomputable def oLen(ty:TypeId) (x:Operand):OpF:=fun c t h=>match lenP c ty (ev c t x)with
  |some v=>.w v
  |none=>.ofO (lenM c h ty (ev c t x))
noncomputable def oCap(ty:TypeId) (x:Operand):OpF:=fun c t _=>match c.under ty with
  |some (.slice _)=>(match ev c t x with | .p p=>(match p with | .nils=>.w (.p (.int .i64 0))|_=>.no)|_=>.no)
  |_=>.no
noncomputable def oAppend(st xt:TypeId) (s x:Operand):OpF:=fun c t h=>match c.under st,c.under xt with
  |some (.slice el),some (.slice _)=>append? c h el (ev c t s) (ev c t x)
  |some (.slice el),some .string=>append? c h el (ev c t s) (ev c t x)
  |_,_=>.no
noncomputable def oCopy(dt:TypeId) (d x:Operand):OpF:=fun c t h=>match c.under dt with
  |some (.slice e)=>(match sizeOf? c e with
    |some sz=>copy? h sz (ev c t d) (ev c t x)
    |none=>.no)
  |_=>.no
noncomputable def oClear(ty:TypeId) (x:Operand):OpF:=fun c t h=>match c.under ty with
  |some (.slice el)=>clear? c h el (ev c t x)
  |_=>.no
noncomputable def oMM(mx:Bool) (x y:Operand):OpF:=fun c t _=>mm mx (ev c t x) (ev c t y)
noncomputable def oSData(x:Operand):OpF:=fun c t _=>.ofO (sdata (ev c t x))
noncomputable def oUString(pt:TypeId) (x n:Operand):OpF:=fun c t h=>match c.under pt with
  |some (.pointer u)=>ustring c h u (ev c t x) (ev c t n)
  |_=>.no
def oNo:OpF:=fun _ _ _=>.no
noncomputable def builtinD(b:Builtin) (args:List Operand) (tys:List TypeId):OpF:=
  match b,args,tys with
  |.len,[x],[ty]=>oLen ty x
  |.cap,[x],[ty]=>oCap ty x
  |.append,[s,x],[st,xt]=>oAppend st xt s x
  |.copy,[d,x],[dt,_]=>oCopy dt d x
  |.clear,[x],[ty]=>oClear ty x
  |.unsafeSliceData,[x],_=>oSData x
  |.unsafeString,[x,n],[pt,_]=>oUString pt x n
  |.max,[x,y],_=>oMM true x y
  |.min,[x,y],_=>oMM false x y
  |_,_,_=>oNo
noncomputable def callD(cl:Call):OpF:=match cl.callee with
  |.builtin b=>builtinD b cl.args.toList cl.argTypes.toList
  |_=>oNo
noncomputable def opD(o:Op):OpF:=
  match o with
  |.move x=>oMove x
  |.assign x=>oMove x
  |.pick k a b=>oPick k a b
  |.alloc el=>oAlloc el
  |.box el x=>oBox el x
  |.build ty parts=>oBuild ty parts
  |.buildSlice ty n parts=>oBuildSlice ty n parts
  |.load ty a=>oLoad ty a
  |.store ty a v=>oStore ty a v
  |.nilCheck x=>oNilCheck x
  |.binOp op ty x y _=>oBin op ty x y
  |.unOp op _ x=>oUn op x
  |.convert s d x=>oConvert s d x
  |.makeInterface ty x=>oFace ty x
  |.makeFunc fn first cap=>oMakeFunc fn first cap
  |.makeMap _ r=>oMakeMap r
  |.makeSlice ty l m=>oMakeSlice ty l m
  |.slice ty x lo hi mx=>oSlice ty x lo hi mx
  |.fieldAddr s x f=>oFieldAddr s x f
  |.field s x f=>oField s x f
  |.indexAddr ty x ix=>oIndexAddr ty x ix
  |.index ty x ix=>oIndex ty x ix
  |.lookup ty x k ok=>oLookup ty x k ok
  |.mapUpdate ty m k v=>oMapUpdate ty m k v
  |.range ty x=>oRange ty x
  |.next x s=>oNext x s
  |.entry x=>oEntry x
  |.typeAssert x _ ty ok=>oAssert x ty ok
  |.extract x i=>oExtract x i
  |.call cl=>callD cl
  |_=>oNo
inductive AEx where
 |n|exit (id:Nat)|ret|pan (v:AV)
 deriving Inhabited
inductive AEnd where
 |ret (v:AV)|pan (v:AV)
 deriving Inhabited
inductive RM where
 |ret|pan (v:AV) (rec:Bool)
 deriving Inhabited
inductive Out where
 |mk (e:AEx) (t:Tm) (h:List Ob) (d:List AD) (r:Option RM)
 deriving Inhabited
inductive CR where
 |mk (e:AEnd) (h:List Ob) (r:Option RM)
 deriving Inhabited
inductive Callee' where
 |fn (f:FuncId) (args:List AV)
 |yield (i:Nat) (args:List AV)
 deriving Inhabited
abbrev CallF:=Callee'→List Ob→Option RM→Option CR
structure Env where
 c:Ctx
 call:CallF
 fn:FuncId
 n:Nat
 rd:Option Nat
abbrev K:=Tm→List Ob→List AD→Option RM→Option Out
noncomputable def putK(n:Nat) (dst:Option Tmp) (v:AV) (t:Tm) (k:Tm→Option Out):Option Out:=
 match dst with
 |none=>k t
 |some d=>cond (Nat.blt d n) (headA v fun v=>t.setK d v k) none
noncomputable def idsN(k:Nat):AV→List Nat→List Nat:=
 Nat.rec (motive:=fun _=>AV→List Nat→List Nat) (fun _ s=>s) (fun _ ih v s=>match v with
  |.ptr i _=>i::s
  |.sl i _ _ _ _=>i::s
  |.el i _ _ _ _=>i::s
  |.asl i _ _ _=>i::s
  |.yield i=>i::s
  |.map i=>i::s
  |.func _ a b=>a.foldr ih (b.foldr ih s)
  |.face _ v=>ih v s
  |.agg l=>l.foldr ih s
  |.tup l=>l.foldr ih s
  |_=>s) k
noncomputable def idsL(l:List AV) (s:List Nat):List Nat:=
 List.rec (motive:=fun _=>List Nat) s (fun v _ ih=>idsN 6 v ih) l
noncomputable def Tm.ids(t:Tm):List Nat→List Nat:=
 Tm.rec (motive:=fun _=>List Nat→List Nat) (fun s=>s) (fun v _ _ il ir s=>idsN 6 v (il (ir s))) t
noncomputable def obIds(o:Ob) (s:List Nat):List Nat:=
 match o with
 |.cells _ cs=>idsL cs s
 |.loop l=>(match l with | .mk _ _ _ _ t _ _ _ df=>df::t.ids s)
 |.iter m _ _=>(match m with|some i=>i::s|none=>s)
 |_=>s
def elemN(i:Nat):List Nat→Bool
 | []=>false
 |j::l=>cond (Nat.beq i j) true (elemN i l)
noncomputable def addNew{R:Type} (l:List Nat):List Nat→(List Nat→R)→R:=
 List.rec (motive:=fun _=>List Nat→(List Nat→R)→R) (fun s f=>f s) (fun i _ ih s f=>cond (elemN i s) (ih s f) (lnf (s++[i]) fun s=>ih s f)) l
noncomputable def reach{R:Type} (h:List Ob) (k:Nat):Nat→List Nat→(List Nat→R)→R:=
 Nat.rec (motive:=fun _=>Nat→List Nat→(List Nat→R)→R) (fun _ s f=>f s) (fun _ ih n s f=>match s.drop n with
  | []=>f s
  |i::_=>addNew (obIds (hget h i) []) s fun s=>forceN (n+1) fun n=>ih n s f) k
noncomputable def posOf(i:Nat) (l:List Nat):Nat→Option Nat:=
 List.rec (motive:=fun _=>Nat→Option Nat) (fun _=>none) (fun j _ ih n=>cond (Nat.beq i j) (some n) (forceN (n+1) ih)) l
abbrev RenF:=Nat→Nat→Option (Nat×Nat)
def ren0{R:Type} (r:RenF) (i:Nat) (f:Nat→R) (no:R):R:=
 match r i 0 with
 |some (j,g)=>Nat.casesOn (motive:=fun _=>R) g (f j) (fun _=>no)
 |none=>no
theorem ren0_map{R S:Type} (r:RenF) (i:Nat) (g:Nat→R) (no:R) (f:R→S):ren0 r i (fun j=>f (g j)) (f no)=f (ren0 r i g no):=by
 unfold ren0
 split
 ·rename_i j k _;cases k<;>rfl
 ·rfl
def renN(r:RenF):Nat→AV→AV
 |0,_=>.un
 |k+1,v=>(match v with
  |.ptr i o=>ren0 r i (fun j=>.ptr j o) .un
  |.sl i g sz o n=>(match r i g with|some (j,g)=>.sl j g sz o n|none=>.un)
  |.el i g sz k o=>(match r i g with|some (j,g)=>.el j g sz k o|none=>.un)
  |.asl i o n sz=>ren0 r i (fun j=>.asl j o n sz) .un
  |.yield i=>ren0 r i (fun j=>.yield j) .un
  |.map i=>ren0 r i (fun j=>.map j) .un
  |.func f a b=>.func f (a.map (renN r k)) (b.map (renN r k))
  |.face t v=>.face t (renN r k v)
  |.agg l=>.agg (l.map (renN r k))
  |.tup l=>.tup (l.map (renN r k))
  |.un=>.un
  |.p v=>.p v
  |.cptr v=>.cptr v
  |.full s xs=>.full s xs)
def ren(r:RenF) (v:AV):AV:=renN r 6 v
def renl(r:RenF) (l:List AV):List AV:=l.map (ren r)
def Tm.ren(r:RenF):Tm→Tm
 |.lf=>.lf
 |.nd v a b=>.nd (Ai.ren r v) (a.ren r) (b.ren r)
noncomputable def mapK{R:Type} (g:AV→(AV→R)→R) (l:List AV):(List AV→R)→R:=
 List.rec (motive:=fun _=>(List AV→R)→R) (fun f=>f []) (fun v _ ih f=>g v fun v=>ih fun l=>f (v::l)) l
noncomputable def renK{R:Type} (r:RenF) (k:Nat):AV→(AV→R)→R:=
 Nat.rec (motive:=fun _=>AV→(AV→R)→R) (fun _ f=>f .un) (fun _ ih v f=>match v with
  |.ptr i o=>ren0 r i (fun j=>f (.ptr j o)) (f .un)
  |.sl i g sz o n=>(match r i g with|some (j,g)=>f (.sl j g sz o n)|none=>f .un)
  |.el i g sz k o=>(match r i g with|some (j,g)=>f (.el j g sz k o)|none=>f .un)
  |.asl i o n sz=>ren0 r i (fun j=>f (.asl j o n sz)) (f .un)
  |.yield i=>ren0 r i (fun j=>f (.yield j)) (f .un)
  |.map i=>ren0 r i (fun j=>f (.map j)) (f .un)
  |.func g a b=>mapK ih a fun a=>mapK ih b fun b=>f (.func g a b)
  |.face t v=>ih v fun v=>f (.face t v)
  |.agg l=>mapK ih l fun l=>f (.agg l)
  |.tup l=>mapK ih l fun l=>f (.tup l)
  |.un=>f .un
  |.p v=>f (.p v)
  |.cptr v=>f (.cptr v)
  |.full s xs=>f (.full s xs)) k
theorem mapK_eq{R:Type} (g:AV→(AV→R)→R) (g':AV→AV) (hg:∀ v f,g v f=f (g' v)) (l:List AV) (f:List AV→R):mapK g l f=f (l.map g'):=by
 induction l generalizing f with
 |nil=>rfl
 |cons v l ih=>
  show g v (fun v=>mapK g l fun l=>f (v::l))=_
  rw[hg,ih];rfl
theorem renK_eq{R:Type} (r:RenF) (k:Nat):∀ (v:AV) (f:AV→R),renK r k v f=f (renN r k v):=by
 induction k with
 |zero=>intro v f;rfl
 |succ k ih=>
  intro v f
  cases v with
  |ptr i o=>exact ren0_map r i (fun j=>AV.ptr j o) .un f
  |sl i g sz o n=>show(match r i g with|some (j,g)=>f (.sl j g sz o n)|none=>f .un)=f (match r i g with|some (j,g)=>.sl j g sz o n|none=>.un);split<;>rfl
  |el i g sz k o=>show(match r i g with|some (j,g)=>f (.el j g sz k o)|none=>f .un)=f (match r i g with|some (j,g)=>.el j g sz k o|none=>.un);split<;>rfl
  |asl i o n sz=>exact ren0_map r i (fun j=>AV.asl j o n sz) .un f
  |yield i=>exact ren0_map r i (fun j=>AV.yield j) .un f
  |map i=>exact ren0_map r i (fun j=>AV.map j) .un f
  |func g a b=>
   show mapK (renK r k) a (fun a=>mapK (renK r k) b fun b=>f (.func g a b))=_
   rw[mapK_eq _ _ ih,mapK_eq _ _ ih];rfl
  |face t v=>exact ih v _
  |agg l=>show mapK (renK r k) l (fun l=>f (.agg l))=_;rw[mapK_eq _ _ ih];rfl
  |tup l=>show mapK (renK r k) l (fun l=>f (.tup l))=_;rw[mapK_eq _ _ ih];rfl
  |un=>rfl
  |p v=>rfl
  |cptr v=>rfl
  |full s xs=>rfl
noncomputable def Tm.renK{R:Type} (r:RenF) (t:Tm):(Tm→R)→R:=
 Tm.rec (motive:=fun _=>(Tm→R)→R) (fun f=>f .lf) (fun v _ _ il ir f=>Ai.renK r 6 v fun v=>il fun a=>ir fun b=>f (.nd v a b)) t
theorem Tm.renK_eq{R:Type} (r:RenF) (t:Tm):∀ (f:Tm→R),Tm.renK r t f=f (t.ren r):=by
 induction t with
 |lf=>intro f;rfl
 |nd v a b iha ihb=>
  intro f
  show Ai.renK r 6 v (fun v=>Tm.renK r a fun a=>Tm.renK r b fun b=>f (.nd v a b))=_
  rw[Ai.renK_eq,iha,ihb];rfl
def obGen:Ob→Nat
 |.row _ _ _ _ g=>g
 |.fr _ _ g=>g
 |_=>0
def renOb(r:RenF) (g:Nat):Ob→Ob
 |.cells e cs=>.cells e (renl r cs)
 |.row e sz xs ex _=>.row e sz xs ex g
 |.fr sz xs _=>.fr sz xs g
 |.loop (.mk st p fn n t ps a b df)=>ren0 r df (fun j=>.loop (.mk st p fn n (t.ren r) ps a b j)) .dead
 |.dead=>.dead
 |.map es=>.map es
 |.defd b=>.defd b
 |.iter m k b=>(match m with|some i=>ren0 r i (fun j=>.iter (some j) k b) .dead|none=>.iter none k b)
noncomputable def renObK{R:Type} (r:RenF) (g:Nat) (o:Ob) (f:Ob→R):R:=
 match o with
 |.cells e cs=>mapK (renK r 6) cs fun cs=>f (.cells e cs)
 |.row e sz xs ex _=>f (.row e sz xs ex g)
 |.fr sz xs _=>f (.fr sz xs g)
 |.loop l=>(match l with | .mk st p fn n t ps a b df=>ren0 r df (fun j=>t.renK r fun t=>f (.loop (.mk st p fn n t ps a b j))) (f .dead))
 |.dead=>f .dead
 |.map es=>f (.map es)
 |.defd b=>f (.defd b)
 |.iter m k b=>(match m with|some i=>ren0 r i (fun j=>f (.iter (some j) k b)) (f .dead)|none=>f (.iter none k b))
theorem renObK_eq{R:Type} (r:RenF) (g:Nat) (o:Ob) (f:Ob→R):renObK r g o f=f (renOb r g o):=by
 cases o with
 |cells e cs=>show mapK (renK r 6) cs _=_;rw[mapK_eq _ _ (renK_eq r 6)];rfl
 |loop l=>
  obtain⟨st,p,fn,n,t,ps,a,b,df⟩:=l
  show ren0 r df (fun j=>t.renK r (fun t=>f (.loop (.mk st p fn n t ps a b j)))) (f .dead)=f (ren0 r df (fun j=>.loop (.mk st p fn n (t.ren r) ps a b j)) .dead)
  simp only[Tm.renK_eq]
  exact ren0_map r df (fun j=>Ob.loop (.mk st p fn n (t.ren r) ps a b j)) .dead f
 |iter m k b=>
  cases m with
  |none=>rfl
  |some i=>exact ren0_map r i (fun j=>Ob.iter (some j) k b) .dead f
 |_=>rfl
noncomputable def Callee'.roots:Callee'→List Nat
 |.fn _ args=>idsL args []
 |.yield i args=>i::idsL args []
def renCallee(r:RenF):Callee'→Option Callee'
 |.fn f args=>some (.fn f (renl r args))
 |.yield i args=>ren0 r i (fun j=>some (.yield j (renl r args))) none
noncomputable def renCalleeK{R:Type} (r:RenF) (c:Callee') (f:Callee'→R) (no:R):R:=
 match c with
 |.fn g args=>mapK (renK r 6) args fun args=>f (.fn g args)
 |.yield i args=>ren0 r i (fun j=>mapK (renK r 6) args fun args=>f (.yield j args)) no
theorem renCalleeK_eq{R:Type} (r:RenF) (c:Callee') (f:Callee'→R) (no:R) :
  renCalleeK r c f no=(match renCallee r c with|some c=>f c|none=>no):=by
 cases c with
 |fn g args=>show mapK (renK r 6) args _=_;rw[mapK_eq _ _ (renK_eq r 6)];rfl
 |yield i args=>
  show ren0 r i (fun j=>mapK (renK r 6) args (fun args=>f (.yield j args))) no =
   (match(ren0 r i (fun j=>some (Callee'.yield j (renl r args))) none)with|some c=>f c|none=>no)
  simp only[mapK_eq _ _ (renK_eq r 6)]
  exact ren0_map r i (fun j=>some (Callee'.yield j (renl r args))) none (fun o=>match o with|some c=>f c|none=>no)
noncomputable def idsEnd:AEnd→List Nat→List Nat
 |.ret v=>idsN 6 v
 |.pan v=>idsN 6 v
def renEnd(r:RenF):AEnd→AEnd
 |.ret v=>.ret (ren r v)
 |.pan v=>.pan (ren r v)
noncomputable def renEndK{R:Type} (r:RenF) (e:AEnd) (f:AEnd→R):R:=
 match e with
 |.ret v=>renK r 6 v fun v=>f (.ret v)
 |.pan v=>renK r 6 v fun v=>f (.pan v)
noncomputable def idsRM(r:Option RM) (s:List Nat):List Nat:=
 match r with
 |some (.pan v _)=>idsN 6 v s
 |_=>s
def renRM(r:RenF):Option RM→Option RM
 |some (.pan v b)=>some (.pan (ren r v) b)
 |some .ret=>some .ret
 |none=>none
noncomputable def renRMK{R:Type} (r:RenF) (m:Option RM) (f:Option RM→R):R:=
 match m with
 |some (.pan v b)=>renK r 6 v fun v=>f (some (.pan v b))
 |some .ret=>f (some .ret)
 |none=>f none
def pick(r:RenF) (h:List Ob) (get:List Ob→Nat→Ob):List Nat→List Ob
 | []=>[]
 |i::l=>renOb r 0 (get h i)::pick r h get l
noncomputable def pickK{R:Type} (r:RenF) (h:List Ob) (l:List Nat):(List Ob→R)→R:=
 List.rec (motive:=fun _=>(List Ob→R)→R) (fun f=>f []) (fun i _ ih f=>renObK r 0 (hget h i) fun o=>ih fun l=>f (o::l)) l
noncomputable def inR(h:List Ob) (ks:List Nat):RenF:=fun i g=>
 match posOf i ks 0 with
 |some j=>cond (Nat.beq (obGen (hget h i)) g) (some (j,0)) none
 |none=>none
def backGen(g0 g1:Nat):Nat:=Nat.casesOn (motive:=fun _=>Nat) g1 g0 (fun _=>Nat.succ g0)
noncomputable def nget(l:List Nat):Nat→Option Nat:=
 List.rec (motive:=fun _=>Nat→Option Nat) (fun _=>none) (fun i _ ih n=>Nat.rec (motive:=fun _=>Option Nat) (some i) (fun m _=>ih m) n) l
noncomputable def outR(h:List Ob) (ks:List Nat) (h':List Ob) (ns:List Nat):RenF:=fun i g=>
 cond (Nat.beq (obGen (hget h' i)) g)
  (match nget ks i with
  |some k=>forceN (backGen (obGen (hget h k)) g) fun g=>some (k,g)
  |none=>(match posOf i ns 0 with
   |some j=>forceN (h.length+j) fun j=>some (j,0)
   |none=>none)) none
noncomputable def putBack(r:RenF) (h0 h:List Ob):List Nat→List Ob→List Ob
 |k::ks,o::os=>putBack r h0 (hset h k (renOb r (backGen (obGen (hget h0 k)) (obGen o)) o)) ks os
 |_,_=>h
noncomputable def putBackK{R:Type} (r:RenF) (h0 h:List Ob) (ks:List Nat) (os:List Ob) (f:List Ob→R):R:=
 match ks,os with
 |k::ks,o::os=>forceN (backGen (obGen (hget h0 k)) (obGen o)) fun g=>renObK r g o fun o=>hsetK h k o fun h=>putBackK r h0 h ks os f
 |_,_=>f h
noncomputable def flatIds:List Ob→List Nat→List Nat
 | [],s=>s
 |o::l,s=>obIds o (flatIds l s)
def geN(n:Nat):List Nat→List Nat
 | []=>[]
 |i::l=>cond (Nat.ble n i) (i::geN n l) (geN n l)
def hasGen:Ob→Bool
 |.row _ _ _ _ _=>true
 |.fr _ _ _=>true
 |_=>false
noncomputable def backOk(h:List Ob):List Nat→List Ob→Bool
 |k::ks,o::os=>cond (hasGen o) (backOk h ks os) (cond (Nat.beq (obGen (hget h k)) 0) (backOk h ks os) false)
 |_,_=>true
noncomputable def innerBack{R:Type} (h:List Ob) (ks:List Nat) (x:CR) (f:CR→R) (no:R):R:=
 match x with
 |.mk e h' r'=>lnf (h'.take ks.length) fun olds=>cond (backOk h ks olds)
  (addNew (idsEnd e (flatIds olds (idsRM r' []))) [] fun s=>reach h' 10000 0 s fun s=>lnf (geN ks.length s) fun ns=>
  renEndK (outR h ks h' ns) e fun e=>renRMK (outR h ks h' ns) r' fun r'=>
  putBackK (outR h ks h' ns) h h ks olds fun h1=>pickK (outR h ks h' ns) h' ns fun h2=>lnf (h1++h2) fun h3=>f (.mk e h3 r')) no
noncomputable def innerGo{R:Type} (call:CallF) (h:List Ob) (ks:List Nat) (cl:Callee') (r:Option RM) (f:CR→R) (no:R):R:=
 renCalleeK (inR h ks) cl (fun cl=>pickK (inR h ks) h ks fun h0=>renRMK (inR h ks) r fun r=>
  match call cl h0 r with
  |none=>no
  |some x=>innerBack h ks x f no) no
def ltN(n:Nat):List Nat→List Nat
 | []=>[]
 |i::l=>cond (Nat.blt i n) (i::ltN n l) (ltN n l)
noncomputable def inner{R:Type} (call:CallF) (cl:Callee') (h:List Ob) (r:Option RM) (f:CR→R) (no:R):R:=
 addNew (idsRM r cl.roots) [] fun s=>reach h 10000 0 s fun s=>lnf (ltN h.length s) fun ks=>innerGo call h ks cl r f no
noncomputable def target?(f:AV) (args:List AV):Option Callee':=
 match f with
 |.p p=>(match p with | .fn g=>some (.fn g args)|_=>none)
 |.func g first cap=>lnf (first++(args++cap)) fun args=>some (.fn g args)
 |.yield i=>some (.yield i args)
 |_=>none
abbrev BigF:=Env→Option Tmp→K→K
noncomputable def ended(n:Nat) (dst:Option Tmp) (ih:K) (t:Tm) (d:List AD) (r:Option RM) (x:CR):Option Out:=
 match x with
 |.mk e h _=>(match e with
  |.ret v=>putK n dst v t fun t=>ih t h d r
  |.pan v=>some (.mk (.pan v) t h d r))
noncomputable def rowLen(h:List Ob):AV→Option (Option (Nat×Nat))
 |.p p=>(match p with | .nils=>some none|_=>none)
 |.sl i g sz off len=>(match hget h i with
  |.row e' sz' xs _ g'=>cond (Nat.beq g g'&&(Nat.beq sz sz'&&(Nat.ble (off+len) xs.length && !Nat.beq e' 5))) (some (some (i,len))) none
  |_=>none)
 |_=>none
noncomputable def overlapsV(h:List Ob) (x y:AV):Option AV:=
 match rowLen h x,rowLen h y with
 |some none,some _=>some (.p (.bool false))
 |some _,some none=>some (.p (.bool false))
 |some (some (i,_)),some (some (j,_))=>cond (Nat.beq i j) none (some (.p (.bool false)))
 |_,_=>none
noncomputable def extV(k:ExtK) (h:List Ob) (args:List AV):Option AV:=
 match k,args with
 |.same,[x]=>some x
 |.sqrt,[x]=>(match floatOf x with
  |some (.f64,a)=>(match FloatKind.f64.format.sqrt a with|some r=>forceN r fun r=>some (.p (.float .f64 r))|none=>none)
  |_=>none)
 |.bits,[x]=>(match floatOf x with
  |some (.f64,a)=>some (.p (.int .u64 (.ofNat a)))
  |_=>none)
 |.frombits,[x]=>(match x with
  |.p p=>(match p with | .int .u64 n=>forceN n.toNat fun n=>some (.p (.float .f64 n))|_=>none)
  |_=>none)
 |.overlaps,[x,y]=>overlapsV h x y
 |_,_=>none
noncomputable def extOf(c:Ctx) (h:List Ob):Callee'→Option AV
 |.fn f args=>(match c.ext f with|some k=>extV k h args|none=>none)
 |.yield _ _=>none
noncomputable def callK(E:Env) (dst:Option Tmp) (ih:K) (t:Tm) (h:List Ob) (d:List AD) (r:Option RM) (cl:Option Callee'):Option Out:=
 match cl with
 |some cl=>(match extOf E.c h cl with
  |some v=>putK E.n dst v t fun t=>ih t h d r
  |none=>inner E.call cl h none (fun x=>ended E.n dst ih t d r x) none)
 |none=>none
noncomputable def bCall(f:Operand) (args:List Operand):BigF:=fun E dst ih t h d r=>
 evsK E.c t args fun args=>callK E dst ih t h d r (target? (ev E.c t f) args)
def methodOf(c:Ctx) (ty:TypeId) (name:String):Option FuncId:=
 match c.info ty with
 |some i=>(match i.methods.find? (·.name == name)with
  |some m=>(match m.path.toList,m.func with
   | [],some (f,false)=>(match c.under ty with
    |some (.pointer _)=>none
    |some _=>some f
    |none=>none)
   |_,_=>none)
  |none=>none)
 |none=>none
def invoked(c:Ctx) (name:String) (x:AV) (args:List AV):Option Callee':=
 match x with
 |.p p=>(match p with
  |.face ty v=>(match methodOf c ty name with|some f=>some (.fn f (.p v::args))|none=>none)
  |_=>none)
 |.face ty v=>(match methodOf c ty name with|some f=>some (.fn f (v::args))|none=>none)
 |_=>none
noncomputable def bInvoke(x:Operand) (name:String) (args:List Operand):BigF:=fun E dst ih t h d r=>
 evsK E.c t args fun args=>callK E dst ih t h d r (invoked E.c name (ev E.c t x) args)
noncomputable def bRecover:BigF:=fun E dst ih t h d r=>
 match E.rd with
 |some _=>none
 |none=>(match r with
  |some (.pan v false)=>putK E.n dst v t fun t=>ih t h d (some (.pan v true))
  |_=>putK E.n dst (.p .nili) t fun t=>ih t h d r)
noncomputable def bDefer(f:Operand) (args:List Operand):BigF:=fun E dst ih t h d r=>
 match E.rd with
 |some _=>none
 |none=>(match evsK E.c t args (target? (ev E.c t f))with
  |some (.fn g as)=>putK E.n dst undefA t fun t=>ih t h (.fn g as::d) r
  |_=>none)
def isFace:AV→Bool
 |.face _ _=>true
 |.p p=>(match p with | .face _ _=>true|_=>false)
 |_=>false
noncomputable def bPanic(x:Operand):BigF:=fun E _ _ t h d r=>
 cond (isFace (ev E.c t x)) (some (.mk (.pan (ev E.c t x)) t h d r)) none
def bNo:BigF:=fun _ _ _ _ _ _ _=>none
noncomputable def bigD(o:Op):BigF:=
 match o with
 |.call cl=>(match cl.callee with
  |.value f=>bCall f cl.args.toList
  |.invoke x name=>bInvoke x name cl.args.toList
  |.builtin b=>(match b with | .recover=>bRecover|_=>bNo))
 |.defer cl=>(match cl.callee with
  |.value f=>bDefer f cl.args.toList
  |_=>bNo)
 |.panic x=>bPanic x
 |_=>bNo
noncomputable def wanted?(all:List Oper) (t:Tm) (g:Option (Nat×Bool)):Option Bool:=
 match g with
 |none=>some true
 |some (j,want)=>(match(all[j]?).bind (·.dst)with
  |none=>some false
  |some d=>(match t.get d with
   |.p p=>(match p with | .bool b=>some (b == want)|_=>some false)
   |.un=>none
   |_=>some false))
noncomputable def opDo(E:Env) (o:Op) (dst:Option Tmp) (ih:K) (t:Tm) (h:List Ob) (d:List AD) (r:Option RM) (v:VH):Option Out:=
 match v with
 |.w v=>putK E.n dst v t fun t=>ih t h d r
 |.ws v i o=>hsetK h i o fun h=>putK E.n dst v t fun t=>ih t h d r
 |.wn v o=>lnf (h++[o]) fun h=>putK E.n dst v t fun t=>ih t h d r
 |.wh v h=>putK E.n dst v t fun t=>ih t h d r
 |.no=>bigD o E dst ih t h d r
noncomputable def opStep(E:Env) (all:List Oper) (o:Oper) (ih:K):K:=fun t h d r=>
 match wanted? all t o.guard with
 |some true=>opDo E o.op o.dst ih t h d r (opD o.op E.c t h)
 |some false=>putK E.n o.dst undefA t fun t=>ih t h d r
 |none=>none
noncomputable def opsRun(E:Env) (all:List Oper) (l:List Oper):K:=
 List.rec (motive:=fun _=>K) (fun t h d r=>some (.mk .n t h d r)) (fun o _ ih t h d r=>opStep E all o ih t h d r) l
inductive DK where
 |Z
 |L (lo hi:Nat) (blank:List Tmp)
 |A (blur blank:List Tmp)
def isL:Op→Bool
 |.move _ | .assign _ | .pick .. | .build .. | .nilCheck _ | .binOp .. | .unOp .. | .makeInterface .. | .makeFunc .. | .slice .. | .fieldAddr .. | .field ..
 |.indexAddr .. | .index .. | .typeAssert .. | .extract .. | .load .. | .lookup ..=>true
 |.convert s _ _=>!Nat.beq s 9
 |.call cl=>(match cl.callee with
  |.builtin b=>(match b with | .len | .max | .min=>true|_=>false)
  |_=>false)
 |_=>false
def isZ:Op→Bool
 |.alloc _=>true
 |.buildSlice _ n parts=>Nat.beq n 0&&parts.toList.isEmpty
 |.makeMap _ r=>r.isNone
 |_=>false
def isA(o:Op):Bool:=!(isL o || isZ o)
def before1(acc:List Nat) (o:Oper):Nat:=
 o.after.toList.foldl (fun s e=>cond (Region.binds .any e) (s ||| (2 ^ e.on ||| acc.getD e.on 0)) s) 0
def befores:List Oper→List Nat→List Nat
 | [],acc=>acc
 |o::l,acc=>befores l (acc++[before1 acc o])
def ordered(b:List Nat) (i j:Nat):Bool:=(b.getD j 0).testBit i
def sameDst(x y:Oper):Bool:=
 match x.dst,y.dst with
 |some d,some e=>Nat.beq d e
 |_,_=>false
def pairOk(b:List Nat) (y:Oper) (j:Nat):List Oper→Nat→Bool
 | [],_=>true
 |x::l,i=>cond (Nat.blt i j)
  (cond (ordered b i j || !(sameDst x y || (isA x.op&&isA y.op))) (pairOk b y j l (i+1)) false) true
def pairsOk(all:List Oper) (b:List Nat):List Oper→Nat→Bool
 | [],_=>true
 |y::l,j=>cond (y.after.toList.all (fun e=>!Region.binds .any e || Nat.blt e.on j)&&(!isZ y.op || (y.guard.isNone&&y.dst.isSome))&&pairOk b y j all 0) (pairsOk all b l (j+1)) false
def countA(f:Nat→Bool):List Oper→Nat→Nat
 | [],_=>0
 |x::l,i=>cond (isA x.op&&f i) (countA f l (i+1)+1) (countA f l (i+1))
def dstsOf(f:Nat→Bool):List Oper→Nat→List Tmp
 | [],_=>[]
 |x::l,i=>cond (f i) (match x.dst with|some d=>d::dstsOf f l (i+1)|none=>dstsOf f l (i+1)) (dstsOf f l (i+1))
def blankOf(all:List Oper) (b:List Nat) (i:Nat):List Tmp:=dstsOf (fun j=>!(ordered b j i || ordered b i j || Nat.beq j i)) all 0
def tmpsOf:List Operand→List Tmp
 | []=>[]
 |x::l=>(match x with | .tmp i=>i::tmpsOf l|_=>tmpsOf l)
def readsOf(all:List Oper) (o:Oper):List Tmp:=
 (match o.guard with
  |some (j,_)=>(match(all[j]?).bind (·.dst)with|some d=>[d]|none=>[])
  |none=>[])++tmpsOf o.op.operands.toList
def narrow(rs blank:List Tmp):List Tmp:=blank.filter fun s=>elemN s rs
def kindOf'(all:List Oper) (b:List Nat) (o:Oper) (i:Nat):DK:=
 cond (isZ o.op) .Z (cond (isL o.op)
  (.L (countA (fun j=>ordered b j i) all 0) (countA (fun j=>!ordered b i j) all 0) (narrow (readsOf all o) (blankOf all b i)))
  (.A (dstsOf (fun j=>!ordered b i j) all 0) (blankOf all b i)))
def kinds(all:List Oper) (b:List Nat):List Oper→Nat→List DK
 | [],_=>[]
 |o::l,i=>kindOf' all b o i::kinds all b l (i+1)
structure DI where
 b:List Nat
 ks:List DK
def drawInfo(all:List Oper):Option DI:=
 let b:=befores all []
 cond (pairsOk all b all 0) (some ⟨b,kinds all b all 0⟩) none
noncomputable def hoist(c:Ctx):List Oper→List Ob→Option (List AV×List Ob)
 | [],h=>some ([],h)
 |o::l,h=>cond (isZ o.op)
  (match opD o.op c .lf h with
   |.wn v ob=>lnf (h++[ob]) fun h=>(match hoist c l h with|some (zs,h)=>some (v::zs,h)|none=>none)
   |_=>none)
  (hoist c l h)
mutual
def PV.same:PV→PV→Bool
 |.bool a,.bool b=>a == b
 |.int j a,.int k b=>j == k&&eqI a b
 |.float j a,.float k b=>Nat.beq (fkn j) (fkn k)&&Nat.beq a b
 |.str a,.str b=>beqBytes a b
 |.nilp,.nilp=>true
 |.nils,.nils=>true
 |.nilm,.nilm=>true
 |.nilf,.nilf=>true
 |.nili,.nili=>true
 |.fn a,.fn b=>Nat.beq a b
 |.vec s a,.vec s' b=>Nat.beq s s'&&PV.sames a b
 |.agg a,.agg b=>PV.sames a b
 |.face t a,.face t' b=>Nat.beq t t'&&PV.same a b
 |_,_=>false
def PV.sames:List PV→List PV→Bool
 | [],[]=>true
 |a::l,b::m=>PV.same a b&&PV.sames l m
 |_,_=>false
end
mutual
def AV.same:AV→AV→Bool
 |.un,.un=>true
 |.p a,.p b=>PV.same a b
 |.ptr i o,.ptr j q=>Nat.beq i j&&Nat.beq o q
 |.cptr a,.cptr b=>PV.same a b
 |.sl i g s o n,.sl i' g' s' o' n'=>Nat.beq i i'&&Nat.beq g g'&&Nat.beq s s'&&Nat.beq o o'&&Nat.beq n n'
 |.el i g s o n,.el i' g' s' o' n'=>Nat.beq i i'&&Nat.beq g g'&&Nat.beq s s'&&Nat.beq o o'&&Nat.beq n n'
 |.asl i o n s,.asl i' o' n' s'=>Nat.beq i i'&&Nat.beq s s'&&Nat.beq o o'&&Nat.beq n n'
 |.full s a,.full s' b=>Nat.beq s s'&&PV.sames a b
 |.func f a b,.func f' a' b'=>Nat.beq f f'&&AV.sames a a'&&AV.sames b b'
 |.yield i,.yield j=>Nat.beq i j
 |.face t a,.face t' b=>Nat.beq t t'&&AV.same a b
 |.agg a,.agg b=>AV.sames a b
 |.tup a,.tup b=>AV.sames a b
 |.map i,.map j=>Nat.beq i j
 |_,_=>false
def AV.sames:List AV→List AV→Bool
 | [],[]=>true
 |a::l,b::m=>AV.same a b&&AV.sames l m
 |_,_=>false
end
noncomputable def looksSame(f:List Ob→Option AV) (v:AV):List (List Ob)→Bool
 | []=>true
 |h::l=>(match f h with|some u=>cond (AV.same u v) (looksSame f v l) false|_=>false)
inductive Pend where
 |mk (f:List Ob→Option AV) (v:AV) (hi:Nat)
noncomputable def pendOk(m:Nat) (h:List Ob):List Pend→Bool
 | []=>true
 |.mk f v hi::l=>cond (Nat.ble m hi) (cond (looksSame f v [h]) (pendOk m h l) false) (pendOk m h l)
noncomputable def blurAll(t:Tm):List Tmp→Tm
 | []=>t
 |d::l=>blurAll (t.setK d .un fun t=>t) l
noncomputable def lookV(c:Ctx) (all:List Oper) (o:Oper) (t:Tm) (h:List Ob):Option AV:=
 match wanted? all t o.guard with
 |some true=>(match opD o.op c t h with | .w v=>some v|_=>none)
 |some false=>some undefA
 |none=>none
abbrev Dead:=Option (Nat×Out)
abbrev KD:=Nat→List (List Ob)→List Pend→List AV→Dead→K
noncomputable def actK(E:Env) (i:Nat) (dst:Option Tmp) (blur:List Tmp) (m:Nat) (hs:List (List Ob)) (ps:List Pend) (zs:List AV) (t:Tm) (h:List Ob) (d:List AD) (r:Option RM) (ih:KD) (x:Option Out):Option Out:=
 match x with
 |some x=>(match x with
  |.mk e t' h' d' r'=>(match e with
   |.n=>cond (pendOk (m+1) h' ps) (putK E.n dst (match dst with|some s=>t'.get s|none=>undefA) t fun t=>ih (m+1) (h'::hs) ps zs none t h' d' r') none
   |e=>ih m hs ps zs (some (i,.mk e (blurAll t blur) h' d' r')) t h d r))
 |none=>none
def deadBefore(b:List Nat) (dd:Dead) (i:Nat):Bool:=
 match dd with
 |some (q,_)=>ordered b q i
 |none=>false
noncomputable def drawStep(E:Env) (all:List Oper) (b:List Nat) (i:Nat) (o:Oper) (k:DK) (ih:KD):KD:=fun m hs ps zs dd t h d r=>
 match k with
 |.Z=>(match zs with
  |v::zs=>cond (deadBefore b dd i) (ih m hs ps zs dd t h d r) (putK E.n o.dst v t fun t=>ih m hs ps zs dd t h d r)
  | []=>none)
 |.L lo hi blank=>cond (deadBefore b dd i) (ih m hs ps zs dd t h d r)
  (match lookV E.c all o (blurAll t blank) h with
  |some v=>cond (looksSame (lookV E.c all o (blurAll t blank)) v ((hs.drop 1).take (m-lo)))
     (putK E.n o.dst v t fun t'=>ih m hs (cond (Nat.blt m hi) (.mk (lookV E.c all o (blurAll t blank)) v hi::ps) ps) zs dd t' h d r) none
  |none=>none)
 |.A blur blank=>(match dd with
  |some x=>ih m hs ps zs (some x) t h d r
  |none=>actK E i o.dst blur m hs ps zs t h d r ih (opStep E all o (fun t h d r=>some (.mk .n t h d r)) (blurAll t blank) h d r))
noncomputable def drawRun(E:Env) (all:List Oper) (b:List Nat):Nat→List Oper→List DK→KD
 |i,o::l,k::ks=>fun m hs ps zs dd t h d r=>drawStep E all b i o k (drawRun E all b (i+1) l ks) m hs ps zs dd t h d r
 |_,_,_=>fun _ _ _ _ dd t h d r=>(match dd with|some (_,o)=>some o|none=>some (.mk .n t h d r))
noncomputable def drawReg(E:Env) (ops:List Oper) (info:Option DI):K:=fun t h d r=>
 match info with
 |none=>none
 |some di=>(match hoist E.c ops h with
  |some (zs,h)=>drawRun E ops di.b 0 ops di.ks 0 [h] [] zs none t h d r
  |none=>none)
noncomputable def seqK(o:Option Out) (f:K):Option Out:=
 match o with
 |some o=>(match o with
  |.mk e t h d r=>(match e with
   |.n=>f t h d r
   |e=>some (.mk e t h d r)))
 |none=>none
abbrev CodeF:=Env→(Code→K)→K
def cSkip:CodeF:=fun _ _ t h d r=>some (.mk .n t h d r)
noncomputable def cRegion(ops:Array Oper) (draw:Bool):CodeF:=match draw with
 |false=>fun E _ t h d r=>opsRun E ops.toList ops.toList t h d r
 |true=>fun E _ t h d r=>drawReg E ops.toList (drawInfo ops.toList) t h d r
noncomputable def cSeq(a b:Code):CodeF:=fun _ ih t h d r=>seqK (ih a t h d r) (ih b)
noncomputable def cCond(x:Operand) (a b:Code):CodeF:=fun E ih t h d r=>
 match ev E.c t x with
 |.p p=>(match p with
  |.bool z=>(match z with|true=>ih a t h d r|false=>ih b t h d r)
  |_=>none)
 |_=>none
noncomputable def cBlock(id:Nat) (b:Code):CodeF:=fun _ ih t h d r=>
 match ih b t h d r with
 |some o=>(match o with
  |.mk e t h d r=>(match e with
   |.exit i=>cond (Nat.beq i id) (some (.mk .n t h d r)) (some (.mk (.exit i) t h d r))
   |e=>some (.mk e t h d r)))
 |none=>none
noncomputable def cLoop(b:Code):CodeF:=fun _ ih t h d r=>seqK (ih b t h d r) (ih (.loop b))
def cExit(id:Nat):CodeF:=fun _ _ t h d r=>some (.mk (.exit id) t h d r)
def cRet:CodeF:=fun _ _ t h d r=>some (.mk .ret t h d r)
noncomputable def cScope(b:Code):CodeF:=fun _ ih=>ih b
def cNo:CodeF:=fun _ _ _ _ _ _=>none
noncomputable def loopEnd(ih:Code→K) (t:Tm) (h:List Ob) (d:List AD) (r:Option RM) (l:Nat):Option Out:=
 match hget h l with
 |.loop (.mk st p fn n t' ps a b df)=>(match st with
  |.busy=>none
  |_=>(match p with
   |none=>hsetK h l (.loop (.mk .exhausted p fn n t' ps a b df)) fun h=>some (.mk .n t h d r)
   |some j=>hsetK h l (.loop (.mk .exhausted p fn n t' ps a b df)) fun h=>ih j t h d r))
 |_=>none
noncomputable def loopGo(E:Env) (ih:Code→K) (ps:List Tmp) (asg body:Code) (f:AV) (t:Tm) (h:List Ob) (d:List AD) (r:Option RM) (df l:Nat):Option Out:=
 match target? f [.yield l]with
 |none=>none
 |some cl=>lnf (h++[.loop (.mk .ready none E.fn E.n t ps asg body df)]) fun h=>inner E.call cl h none (fun x=>match x with
   |.mk e h' _=>(match e with
    |.ret _=>loopEnd ih t h' d r l
    |.pan v=>some (.mk (.pan v) t h' d r))) none
noncomputable def cRange(f:Operand) (ps:Array Tmp) (asg body:Code):CodeF:=fun E ih t h d r=>
 match E.rd with
 |none=>forceN h.length fun i=>forceN (i+1) fun l=>lnf (h++[.defd false]) fun h=>loopGo E ih ps.toList asg body (ev E.c t f) t h (.coll i::d) r i l
 |some l=>(match hget h l with
  |.loop l=>(match l with | .mk _ _ _ _ _ _ _ _ df=>forceN h.length fun l=>loopGo E ih ps.toList asg body (ev E.c t f) t h d r df l)
  |_=>none)
noncomputable def codeD(b:Code):CodeF:=
 match b with
 |.skip=>cSkip
 |.label _=>cSkip
 |.region _ ops draw=>cRegion ops draw
 |.seq a b=>cSeq a b
 |.cond x a b=>cCond x a b
 |.block id b=>cBlock id b
 |.loop b=>cLoop b
 |.rangeFunc f ps a b=>cRange f ps a b
 |.exit id=>cExit id
 |.scope b=>cScope b
 |.ret=>cRet
 |.goto _=>cNo
 |.refuse _=>cNo
noncomputable def exec(E:Env) (k:Nat):Code→K:=
 Nat.rec (motive:=fun _=>Code→K) (fun _ _ _ _ _=>none) (fun _ ih b=>codeD b E ih) k
noncomputable def results?(c:Ctx) (h:List Ob) (t:Tm):List ResultVar→Option (List AV)
 | []=>some []
 |.tmp i::l=>(match results? c h t l with|some m=>some (t.get i::m)|none=>none)
 |.cell a ty::l=>(match load? c h ty (t.get a),results? c h t l with
  |some v,some m=>some (v::m)
  |_,_=>none)
def settleR:RM→RM
 |.pan v b=>cond b .ret (.pan v b)
 |.ret=>.ret
noncomputable def leave(c:Ctx) (call:CallF) (rs:List ResultVar) (t:Tm) (r:Option RM):List AD→RM→List Ob→Option CR
 | [],m,h=>(match m with
  |.ret=>(match results? c h t rs with
   |some [v]=>some (.mk (.ret v) h r)
   |some vs=>some (.mk (.ret (.tup vs)) h r)
   |none=>none)
  |.pan v b=>cond b none (some (.mk (.pan v) h r)))
 |a::d,m,h=>(match a with
  |.coll i=>(match hget h i with
   |.defd tk=>cond tk none (hsetK h i (.defd true) fun h=>leave c call rs t r d m h)
   |_=>none)
  |.fn f args=>inner call (.fn f args) h (some m) (fun x=>match x with
    |.mk e h r'=>(match e,r' with
     |.ret _,some m=>leave c call rs t r d (settleR m) h
     |_,_=>none)) none)
noncomputable def argTm{R:Type}:List AV→Nat→Tm→(Tm→R)→R
 | [],_,t,f=>f t
 |v::l,i,t,f=>t.setK i v fun t=>argTm l (i+1) t f
noncomputable def callEnd(c:Ctx) (call:CallF) (fn:Func) (o:Option Out):Option CR:=
 match o with
 |some o=>(match o with
  |.mk e t h d r=>(match e with
   |.n=>leave c call fn.results.toList t r d .ret h
   |.ret=>leave c call fn.results.toList t r d .ret h
   |.pan v=>leave c call fn.results.toList t r d (.pan v false) h
   |.exit _=>none))
 |none=>none
noncomputable def callBody(c:Ctx) (call:CallF) (k:Nat) (f:FuncId) (fn:Func) (args:List AV) (h:List Ob) (r:Option RM):Option CR:=
 match fn.body with
 |none=>none
 |some b=>cond (Nat.ble args.length fn.ntmps)
  (argTm args 0 .lf fun t=>callEnd c call fn (exec {c,call,fn:=f,n:=fn.ntmps,rd:=none} k b t h [] r)) none
noncomputable def setParams(n:Nat):List Tmp→List AV→Tm→Option Tm
 |p::ps,a::as,t=>cond (Nat.blt p n) (t.setK p a fun t=>setParams n ps as t) none
 | [],[],t=>some t
 |_,_,_=>none
noncomputable def roundEnd(i:Nat) (o:Option Out):Option CR:=
 match o with
 |some o=>(match o with
  |.mk e _ h d _=>(match d with
   | []=>(match e with
    |.pan v=>some (.mk (.pan v) h none)
    |e=>(match hget h i with
     |.loop (.mk _ _ fn n t ps a b df)=>(match e with
      |.exit id=>hsetK h i (.loop (.mk .done (some (.exit id)) fn n t ps a b df)) fun h=>some (.mk (.ret (.p (.bool false))) h none)
      |.ret=>hsetK h i (.loop (.mk .done (some .ret) fn n t ps a b df)) fun h=>some (.mk (.ret (.p (.bool false))) h none)
      |_=>hsetK h i (.loop (.mk .ready none fn n t ps a b df)) fun h=>some (.mk (.ret (.p (.bool true))) h none))
     |_=>none))
   |_=>none))
 |none=>none
noncomputable def roundBody(E:Env) (k i:Nat) (bd:Code) (o:Option Out):Option CR:=
 match o with
 |some o=>(match o with
  |.mk e t h d _=>(match e,d with
   |.n,[]=>(match hget h i with
    |.loop (.mk st p fn n t' ps a b df)=>(match st with
     |.ready=>hsetK h i (.loop (.mk .busy p fn n t' ps a b df)) fun h=>roundEnd i (exec E k bd t h [] none)
     |_=>none)
    |_=>none)
   |_,_=>none))
 |none=>none
noncomputable def round(c:Ctx) (call:CallF) (k i:Nat) (args:List AV) (h:List Ob) (r:Option RM):Option CR:=
 match hget h i,r with
 |.loop (.mk _ _ fn n t ps a bd _),none=>(match c.fn fn with
  |some _=>(match setParams n ps args t with
   |some t=>roundBody {c,call,fn,n,rd:=some i} k i bd (exec {c,call,fn,n,rd:=some i} k a t h [] none)
   |none=>none)
  |none=>none)
 |_,_=>none
abbrev Orc:=FuncId→List AV→List Ob→Option (AEnd×List Ob)
noncomputable def callFn(c:Ctx) (o:Orc) (k:Nat) (call:CallF) (f:FuncId) (args:List AV) (h:List Ob) (r:Option RM):Option CR:=
 match r with
 |none=>(match o f args h with
  |some (e,h)=>some (.mk e h none)
  |none=>(match c.fn f with
   |some fn=>callBody c call k f fn args h none
   |none=>none))
 |some r=>(match c.fn f with
   |some fn=>callBody c call k f fn args h (some r)
   |none=>none)
noncomputable def callStep(c:Ctx) (o:Orc) (k:Nat) (call:CallF) (cl:Callee') (h:List Ob) (r:Option RM):Option CR:=
 match cl with
 |.fn f args=>callFn c o k call f args h r
 |.yield i args=>round c call k i args h r
noncomputable def callN(c:Ctx) (o:Orc) (k:Nat):CallF:=
 Nat.rec (motive:=fun _=>CallF) (fun _ _ _=>none) (fun k ih cl h r=>callStep c o k ih cl h r) k
end Go.Ai

/- What is proved: contracts of searches in lists of numbers. Conditions: the memory of calls holds no contract but those of the examples (F17). -/
import Derived.Test.YtepjcfcfpjhpgaaGreatDoorPC01
import Derived.Test.YtepjcfcfpjhpgaaGreatDoorPC02
set_option linter.all false
set_option maxRecDepth 100000
namespace Go.Proofs
open Go Go.Ai
structure Dig where
 (d0 d1 d2 d3 d4 d5 d6 d7 d8 d9 e0 e1 e2 e3 e4 e5:Int)
 deriving DecidableEq
def Dig.cs(d:Dig):List PV:=[.int .u8 d.d0,.int .u8 d.d1,.int .u8 d.d2,.int .u8 d.d3,.int .u8 d.d4,.int .u8 d.d5,.int .u8 d.d6,.int .u8 d.d7,.int .u8 d.d8,.int .u8 d.d9,.int .u8 d.e0,.int .u8 d.e1,.int .u8 d.e2,.int .u8 d.e3,.int .u8 d.e4,.int .u8 d.e5]
def Dig.z:Dig:=⟨0,0,0,0,0,0,0,0,0,0,0,0,0,0,0,0⟩
structure Ent where
 (k v:List UInt8)
 (ov ln ch ct:Int)
 sm:Dig
def Ent.cs(e:Ent):List PV:=[.str e.k,.str e.v,.int .i64 e.ov,.int .i64 e.ln,.int .i64 e.ch,.int .i64 e.ct,.int .u8 e.sm.d0,.int .u8 e.sm.d1,.int .u8 e.sm.d2,.int .u8 e.sm.d3,.int .u8 e.sm.d4,.int .u8 e.sm.d5,.int .u8 e.sm.d6,.int .u8 e.sm.d7,.int .u8 e.sm.d8,.int .u8 e.sm.d9,.int .u8 e.sm.e0,.int .u8 e.sm.e1,.int .u8 e.sm.e2,.int .u8 e.sm.e3,.int .u8 e.sm.e4,.int .u8 e.sm.e5]
def Ent.c(e:Ent):Ob:=.cells 64 (e.cs.map .p)
def Ent.V(e:Ent):PV:=.agg e.cs
section
variable {e:Ent} {l:List Ob} {i:Nat}
end
theorem eqE1{k n i:Nat} {a b:List PV} {x y:Int} (ha:a[i]?=some (.int .u8 x)) (hb:b[i]?=some (.int .u8 y)):eqEs cx (k+2) 5 1 a b (n+1) i=cond (decide (x=y)) (eqEs cx (k+1) 5 1 a b n (i+1)) (some false):=by
 have pa:∀ (l:List PV) (z:Int),l[i]?=some (.int .u8 z)→part? cx 5 l (i*1)=some (.int .u8 z):=fun l z h=>by
  unfold part?
  rw[a5]
  simp only[pget_eq,Nat.mul_one,h]
 conv=>lhs;unfold eqEs
 rw[pa _ _ ha,pa _ _ hb]
 simp only
 conv=>lhs;unfold eqT
 rw[u5]
 simp only[Nat.beq_refl,cond,eqI_eq]
 cases decide (x=y)<;>rfl
theorem cnd{p q:Prop} [Decidable p] [Decidable q]:cond (decide p) (some (decide q)) (some false)=some (decide (p∧q)):=by
 by_cases hp:p<;>by_cases hq:q<;>simp [hp,hq]
theorem eqEs_z{k:Nat} {a b:List PV} {i:Nat}:eqEs cx (k+1) 5 1 a b 0 i=some (decide True):=by unfold eqEs;rfl
def inR(n lo hi:Int):Prop:=lo≤n∧n≤hi
instance (n lo hi:Int):Decidable (inR n lo hi):=inferInstanceAs (Decidable (lo≤n∧n≤hi))
def isNo(n:Int):Prop:=2≤n∧n≤4095
instance (n:Int):Decidable (isNo n):=inferInstanceAs (Decidable (2≤n∧n≤4095))
section
variable {o:Orc} (ho:FreeT o)
include ho
def Ent.short(e:Ent):Prop:=e.ov=0∧e.ln=0∧e.ch=0∧e.ct=0∧e.sm=Dig.z∧e.v.length≤64
def Ent.long(e:Ent):Prop:=e.v=[]∧e.ch=0∧e.ct=0∧isNo e.ov∧inR e.ln 65 4000
def Ent.nest(e:Ent):Prop:=e.v=[]∧e.ov=0∧e.ln=0∧isNo e.ch∧inR e.ct 1 2147483647
def Ent.keyed(e:Ent):Prop:=inR e.k.length 1 48
open Classical in
noncomputable def Ent.form(e:Ent):Int:=if ¬e.keyed then 0 else if e.short then 1 else if e.long then 2 else if e.nest then 3 else 0
end
def ints(l:List Int):List PV:=l.map (.int .i64)
theorem ints_length(l:List Int):(ints l).length=l.length:=List.length_map ..
theorem ints_getD{l:List Int} {k:Nat} (hk:k<l.length):(ints l).getD k .nilp=.int .i64 (l.getD k 0):=by
 unfold ints;simp [List.getD,hk]
theorem ints_app(l m:List Int):ints (l++m)=ints l++ints m:=List.map_append ..
theorem int_at{h v l} {k:Nat} {ty:TypeId} (H:Sl h 1 v (ints l)) (hu:cx.under ty=some (.slice 3)) (hk:k<l.length) :
  indexAddr? cx ty v (.p (.int .i64 (k:Int)))=some (rdS v k)∧load? cx h 3 (rdS v k)=some (.p (.int .i64 (l.getD k 0))):=by
 constructor
 ·rw[H.at hu s3 (by omega) (by rw[ints_length];omega),Int.toNat_natCast]
 ·have:=H.load (c:=cx) (e:=3) (k:=k) (by rw[ints_length];exact hk) (by rw[ints_getD hk];exact eok_int a3)
  rw[this,ints_getD hk]
section
variable {o:Orc} (ho:FreeT o)
include ho
end
theorem z62:zero? cx 62=some (.agg [.int .i64 0,.int .i64 0,.int .i64 0,.int .i64 0,.int .i64 0,.bool false,.nils,.int .i64 0,.str [],.nils]):=by kernel_rfl
section
variable {o:Orc} (ho:FreeT o)
include ho
end
theorem one64{i:Nat} (h:i<4611686018427387904):IntKind.wrap .i64 ((i:Int)+1)=((i+1:Nat):Int):=by
 rw[wrap64_id (by omega) (by omega)];omega
theorem pred64{i:Nat} (h:i<4611686018427387904) (h0:0<i):IntKind.wrap .i64 ((i:Int)-1)=((i-1:Nat):Int):=by
 rw[wrap64_id (by omega) (by omega)];omega
def IncP(l:List Int) (n:Int):Prop:=∀ i,i<l.length→2≤l.getD i 0∧l.getD i 0<n∧(0<i→l.getD (i-1) 0<l.getD i 0)
section
variable {o:Orc} (ho:FreeT o)
include ho
end
end Go.Proofs

/- What is proved: contracts of the program's check of pages, part 1. Conditions: as before. -/
import Derived.Test.YtepjcfcfpjhpgaaGreatDoorPC04
set_option linter.all false
set_option maxRecDepth 100000
namespace Go.Proofs
open Go Go.Ai
theorem one63{i:Nat} (h:i+1<9223372036854775808):IntKind.wrap .i64 ((i:Int)+1)=((i+1:Nat):Int):=by
 rw[wrap64_id (by omega) (by omega)];omega
inductive SlQ (sz:Nat):PV→List PV→Prop
 |sl {p xs}:SlP sz p xs→SlQ sz p xs
 |emp:SlQ sz (.vec 0 []) []
theorem SlQ.len{sz p xs ty e} (H:SlQ sz p xs) (hu:cx.under ty=some (.slice e)) (h:List Ob):lenW cx h ty (.p p)=.w (.p (.int .i64 xs.length)):=by
 cases H with
 |sl H=>exact(H.sl h).len hu
 |emp=>exact len_vec hu
theorem SlQ.eok{sz p xs} (H:SlQ sz p xs):EOk cx 23 p:=by
 cases H with
 |sl H=>exact H.eok
 |emp=>
  refine⟨?_,?_⟩
  ·unfold loadC;rw[a23]
  ·unfold part?;rw[a23];rfl
theorem SlP.at{sz p xs} {ty e:TypeId} {k:Nat} (H:SlP (sz+1) p xs) (hu:cx.under ty=some (.slice e)) (hs:sizeOf? cx e=some (sz+1)) (hk:k<xs.length):indexAddr? cx ty (.p p) (.p (.int .i64 (k:Int)))=some (.cptr (xs.getD k .nilp)):=by
 rw[(H.sl []).at (sz:=sz) hu hs (by omega) (by omega),Int.toNat_natCast]
 cases H with
 |nil=>simp at hk
 |vec=>rfl
theorem SlQ.at{sz p xs} {ty e:TypeId} {k:Nat} (H:SlQ (sz+1) p xs) (hu:cx.under ty=some (.slice e)) (hs:sizeOf? cx e=some (sz+1)) (hk:k<xs.length):indexAddr? cx ty (.p p) (.p (.int .i64 (k:Int)))=some (.cptr (xs.getD k .nilp)):=by
 cases H with
 |sl H=>exact H.at hu hs hk
 |emp=>simp at hk
theorem geq_s{c:Ctx} {ty:TypeId} {q:Bool} {x y:List UInt8}:bin3 .geq c ty q (.p (.str x)) (.p (.str y))=.w (.p (.bool (!Op.bytesLess x y))):=resB_eq _
theorem hset_end(h:List Ob) (a b:Ob):hset (h++[a]) h.length b=h++[b]:=by
 rw[hset_eq,List.set_append_right _ _ (Nat.le_refl _),Nat.sub_self];rfl
def Ent.z:Ent:=⟨[],[],0,0,0,0,Dig.z⟩
section
variable {e:Ent} {h:List Ob}
end
open Classical in
section
variable {o:Orc} (ho:FreeT o)
include ho
end
open Classical in
section
variable {o:Orc} (ho:FreeT o)
include ho
end
noncomputable def Ent.wt(lv:Int) (e:Ent):Int:=if 0<lv then(e.k.length:Int)+27 else if e.form=1 then(e.k.length:Int)+(e.v.length:Int)+5 else if e.form=2 then(e.k.length:Int)+27 else if e.form=3 then(e.k.length:Int)+29 else 0
open Classical in
open Classical in
section
variable {o:Orc} (ho:FreeT o)
include ho
end
structure Frd where
 v:Int
 p:PV
 l:List Int
def Frd.cs(f:Frd):List PV:=[.int .i64 f.v,f.p]
def Frd.V(f:Frd):PV:=.agg f.cs
def Frd.c(f:Frd):Ob:=.cells 375 (f.cs.map .p)
def Frd.z:Frd:=⟨0,.nils,[]⟩
def Frd.ok(f:Frd):Prop:=SlQ 1 f.p (ints f.l)∧f.l.length<9223372036854775808
structure Pg where
 (kd no vr tr lv:Int)
 top:Bool
 ep:PV
 nx:Int
 dt:List UInt8
 fp:PV
 es:List Ent
 fs:List Frd
def Pg.cs(g:Pg):List PV:=[.int .i64 g.kd,.int .i64 g.no,.int .i64 g.vr,.int .i64 g.tr,.int .i64 g.lv,.bool g.top,g.ep,.int .i64 g.nx,.str g.dt,g.fp]
def Pg.V(g:Pg):PV:=.agg g.cs
def Pg.c(g:Pg):Ob:=.cells 62 (g.cs.map .p)
structure Pg.ok (g:Pg):Prop where
 he:SlQ 22 g.ep (g.es.map Ent.V)
 hf:SlQ 2 g.fp (g.fs.map Frd.V)
 hF:∀ f∈g.fs,f.ok
 le:g.es.length<1000000000
 lf:g.fs.length<1000000000
 ld:g.dt.length<1000000000
section
variable {f:Frd} {g:Pg} {h l:List Ob} {i:Nat}
end
open Classical in
section
variable {o:Orc} (ho:FreeT o)
include ho
end
theorem eql_b{q:Bool} {a b:Bool}:bin3 .eql cx 4 q (.p (.bool a)) (.p (.bool b))=.w (.p (.bool (a == b))):=by
 show(match eq? cx 4 q (.p (.bool a)) (.p (.bool b))with|some b=>resB b|none=>.no)=_
 have:eq? cx 4 q (.p (.bool a)) (.p (.bool b))=some (a == b):=by unfold eq?;rw[u4]
 rw[this];exact resB_eq _
open Classical in
section
variable {o:Orc} (ho:FreeT o)
include ho
end
end Go.Proofs

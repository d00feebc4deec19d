/- What is proved: the law over its row ('lifted4'). Conditions: none. -/
import Derived.Test.YtepjcfcfpjhpgaaGreatDoorPF02
import Derived.Test.YtepjcfcfpjhpgaaGreatDoorCards
import Derived.Test.YtepjcfcfpjhpgaaGreatDoorTie
import Derived.SevenTiedAt
import Derived.Stop.Joined
set_option linter.all false
set_option maxRecDepth 100000
namespace Go.Proofs.YtepjcfcfpjhpgaaGreatDoor
open Go.Ai Go.RowKit Go.ChangeShapes Go.WideShapes Go.ChangeAt Go.ChangeMaps
theorem own4:ownKnob Tryz.prog.godebug=none:=by kernel_rfl
theorem laidOut4:laidOutB Tryz.prog=true:=by kernel_rfl
theorem par4:Tryz.f4.params = #[44,9]:=by kernel_rfl
theorem res4:Tryz.f4.resultTypes = #[4]:=by kernel_rfl
theorem st44:(match Tryz.prog.underlying 44 with|some (.struct _)=>true|_=>false)=true:=by kernel_rfl
theorem ct44:Tryz.prog.cellTypes Tryz.prog.depth 44=some [3,42]:=by kernel_rfl
theorem arg_con{W:World} {base:Nat} {v:Value} (h:Value.okWide Tryz.prog W .any base 44 v):∃ cs:Array Value,v=.agg cs∧∀ x∈cs.toList,∀ a len cap,x=.slice (some a) len cap→a.spot=none:=by
 unfold Value.okWide at h
 have hs:=st44
 cases hu:Tryz.prog.underlying 44 with
 |none=>rw[hu]at hs;cases hs
 |some t=>
  rw[hu]at hs h
  cases t with
  |struct fs=>
   simp only at h
   obtain⟨cs,rfl,_,ts,hts,⟨n,hn⟩,hall⟩:=h
   refine⟨cs,rfl,fun x hx a len cap hxe=>?_⟩
   rw[ct44]at hts
   cases hts
   obtain⟨i,hi⟩:=List.getElem?_of_mem hx
   rw[Array.getElem?_toList]at hi
   obtain⟨u,hu1,hok⟩:=hall i x hi
   subst hxe
   have h6:i % [3,42].length<2:=Nat.mod_lt _ (by decide)
   generalize i % [3,42].length=j at hu1 h6
   have hsl:∀ {e:TypeId},Tryz.prog.underlying u=some (.slice e)→a.spot=none:=fun {e} he=>by
    simp only[Cell.okWide,he,Cell.ok]at hok
    exact hok.2.2.2.1
   have hin:Tryz.prog.underlying u=some (.int .i64)→a.spot=none:=fun he=>by
    simp only[Cell.okWide,he,Cell.ok]at hok
   match j,h6,hu1 with
   |0,_,hu1=>cases hu1;exact hin uP3
   |1,_,hu1=>cases hu1;exact hsl uP42
  |_=>cases hs
theorem door_met(os:Os) (args:Array Value):laidMetH Tryz.prog Rows.proofContentsRow.laid ((World.doorLaid Tryz.prog 400 os).forCall (fun _ _=>0) ⟨#[],args,[]⟩).memory:=
 laidMetH_of_parts3 (fuel:=8) (laidMet_of_run' 8 (by kernel_rfl) (by kernel_rfl)) (by kernel_rfl) (by kernel_rfl)
def arg0:Value:=.agg #[.int .i64 0,.slice none 0 0]
def arg1:Value:=.string ⟨#[]⟩
theorem lifted4(os:Os) (started:os.Started) (H:Type) (enc:TypeId×Value→H) :
  ReturnsInHanded {} Tryz.checked os 4 .any (fun w args=>(Rows.proofContentsSpec.pre enc Tryz.prog Tryz.f4 [] false w args∧laidMetH Tryz.prog Rows.proofContentsRow.laid w)∧sizedMet enc Tryz.prog Tryz.f4 (OpenSpec.ofChange Rows.proofContentsSpec) false w args)
   (Rows.proofContentsSpec.post enc Tryz.prog Tryz.f4 false true false false):=by
 refine returnsInHanded_of_change_and (C:=Tryz.checked) (X:=fun w _=>laidMetH Tryz.prog Rows.proofContentsRow.laid w) (fun _ _ _ hh h=>h.of_heap hh) own4 started (by kernel_rfl) Tryz.func4
  (ChangeSpec.witness_shaped (enc:=enc) (C:=Tryz.checked) (os:=os) (X:=fun w _=>laidMetH Tryz.prog Rows.proofContentsRow.laid w) false (World.doorLaid Tryz.prog 400 os) #[arg0,arg1] 8 rfl (World.shaped_of_RefB (by kernel_rfl) (by kernel_rfl)) (by kernel_rfl) (by kernel_rfl) (by kernel_rfl) (door_met os _)) ?_
 intro W base args ds gs before hval0 hW _ _ hL _
 have hval:∀ (j:Nat) t v,Tryz.f4.params[j]?=some t→args[j]?=some v→Value.okWide Tryz.prog W .any base t v:=hval0
 have hW':=hW
 obtain⟨p,q,hA0,hV,rfl,_,_⟩:=hW
 have hA:DataW.TrodAll enc Tryz.prog W 0 (fun _=>true) true Tryz.f4.params.toList args.toList ds p:=hA0
 rw[par4]at hA hval
 obtain⟨v0,v1,d0,d1,p0,p1,rfl,rfl,rfl,h0,h1⟩:=trodAll_two hA
 obtain⟨rfl,rfl⟩:=trodVars_none hV
 have k0:=h0
 have k1:=h1
 obtain⟨cs,rfl,hsp⟩:=arg_con (hval 0 44 v0 rfl rfl)
 obtain⟨fuel,hf⟩:=h0
 obtain⟨fuel1,hf1⟩:=h1
 obtain⟨s,hs,_,_⟩:=DataW.trod_string uP9 hf1
 obtain rfl:v1=.string s:=by
  have h9:=hval 1 9 v1 rfl rfl
  simp only[Value.okWide,uP9]at h9
  cases v1<;>first|(simp only[Cell.okWide,uP9,Cell.ok]at h9;done)|(simp [Value.cells]at hs;rw[hs])
 clear hA0 hval0
 simp only[List.append_nil]at hW'
 have fin:∀ W',Below W.heap.size W W'→Rows.proofContentsSpec.post enc Tryz.prog Tryz.f4 false true false false W #[.agg cs,.string s] (.bool true) W':=fun W' hb=>by
  have hlt:∀ x∈p0++p1,x.block<W.heap.size:=fun x hx=>hW'.lt x (by simpa using hx)
  refine post_below (pa:=p0++p1) (pv:=[]) hW' (fun b sp hd=>?_) (fun sp hsp=>?_) (fun _ _=>rfl) (by simp) hb ?_
  ·rw[res4]
   exact trodAll_mk1 ⟨1,by simp [DataW.trod,Value.cells,uP4]⟩
  ·rw[par4]
   have t0:=WideElems.Trod_stays (sp':=sp) laidOut4 (by kernel_rfl) (of_decide_eq_true (by kernel_rfl)) k0 (fun x hx=>hb.same (hlt x (List.mem_append_left _ hx))) (fun x hx=>hsp x (by simp [hx]))
   have t1:=WideElems.Trod_stays (sp':=sp) laidOut4 (by kernel_rfl) (of_decide_eq_true (by kernel_rfl)) k1 (fun x hx=>hb.same (hlt x (List.mem_append_right _ hx))) (fun x hx=>hsp x (by simp [hx]))
   exact trodAll_mk2 t0 t1
  ·intro j t r hj hr
   rw[res4]at hj hr
   match j,hj,hr with
   |0,hj,hr=>
    simp [Value.resultList]at hj hr
    subst hj;subst hr
    simp [Value.okWide,uP4,Cell.okWide,Cell.ok]
 obtain⟨l,q,xs,hS,hok,hc⟩:=open_con (W:=W) hsp hf
 refine(calls4 (glob_of_laid hL) hS hok (pr_agg hc)).mono fun e W' ⟨he,hb⟩=>?_
 exact⟨_,he,fin W' hb⟩
end Go.Proofs.YtepjcfcfpjhpgaaGreatDoor

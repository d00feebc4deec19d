/- What is proved: the law over its row, lifted. Conditions: the row's. -/
import Derived.Test.YtepjcfcfpjhpgaaGreatDoorSF02
import Derived.Test.YtepjcfcfpjhpgaaGreatDoorCards
import Derived.Test.YtepjcfcfpjhpgaaGreatDoorTie
import Derived.SevenTiedAt
import Derived.Stop.Joined
set_option linter.all false
set_option maxRecDepth 100000
namespace Go.Proofs.YtepjcfcfpjhpgaaGreatDoor
open Go.Ai Go.RowKit Go.ChangeShapes Go.WideShapes Go.ChangeAt Go.ChangeMaps
theorem own3:ownKnob Tryz.prog.godebug=none:=by kernel_rfl
theorem laidOut3:laidOutB Tryz.prog=true:=by kernel_rfl
theorem par3:Tryz.f3.params = #[25,32,32]:=by kernel_rfl
theorem res3:Tryz.f3.resultTypes = #[4]:=by kernel_rfl
theorem st25:(match Tryz.prog.underlying 25 with|some (.struct _)=>true|_=>false)=true:=by kernel_rfl
theorem st32:(match Tryz.prog.underlying 32 with|some (.struct _)=>true|_=>false)=true:=by kernel_rfl
theorem ct25:Tryz.prog.cellTypes Tryz.prog.depth 25=some [22,23,23,23,3,3]:=by kernel_rfl
theorem arg_agg{W:World} {base:Nat} {t:TypeId} {v:Value} (hs:(match Tryz.prog.underlying t with|some (.struct _)=>true|_=>false)=true) (h:Value.okWide Tryz.prog W .any base t v):∃ cs:Array Value,v=.agg cs:=by
 unfold Value.okWide at h
 cases hu:Tryz.prog.underlying t with
 |none=>rw[hu]at hs;cases hs
 |some tt=>
  rw[hu]at hs h
  cases tt with
  |struct fs=>
   simp only at h
   obtain⟨cs,rfl,_⟩:=h
   exact⟨cs,rfl⟩
  |_=>cases hs
theorem arg_space{W:World} {base:Nat} {v:Value} (h:Value.okWide Tryz.prog W .any base 25 v):∃ cs:Array Value,v=.agg cs∧∀ x∈cs.toList,∀ a len cap,x=.slice (some a) len cap→a.spot=none:=by
 unfold Value.okWide at h
 have hs:=st25
 cases hu:Tryz.prog.underlying 25 with
 |none=>rw[hu]at hs;cases hs
 |some t=>
  rw[hu]at hs h
  cases t with
  |struct fs=>
   simp only at h
   obtain⟨cs,rfl,_,ts,hts,⟨n,hn⟩,hall⟩:=h
   refine⟨cs,rfl,fun x hx a len cap hxe=>?_⟩
   rw[ct25]at hts
   cases hts
   obtain⟨i,hi⟩:=List.getElem?_of_mem hx
   rw[Array.getElem?_toList]at hi
   obtain⟨u,hu1,hok⟩:=hall i x hi
   subst hxe
   have h6:i % [22,23,23,23,3,3].length<6:=Nat.mod_lt _ (by decide)
   generalize i % [22,23,23,23,3,3].length=j at hu1 h6
   have hsl:∀ {e:TypeId},Tryz.prog.underlying u=some (.slice e)→a.spot=none:=fun {e} he=>by
    simp only[Cell.okWide,he,Cell.ok]at hok
    exact hok.2.2.2.1
   have hin:Tryz.prog.underlying u=some (.int .i64)→a.spot=none:=fun he=>by
    simp only[Cell.okWide,he,Cell.ok]at hok
   match j,h6,hu1 with
   |0,_,hu1=>cases hu1;exact hsl uP22
   |1,_,hu1=>cases hu1;exact hsl uP23
   |2,_,hu1=>cases hu1;exact hsl uP23
   |3,_,hu1=>cases hu1;exact hsl uP23
   |4,_,hu1=>cases hu1;exact hin uP3
   |5,_,hu1=>cases hu1;exact hin uP3
  |_=>cases hs
theorem door_met(os:Os) (args:Array Value):laidMetH Tryz.prog Rows.cursorChecksRow.laid ((World.doorLaid Tryz.prog 400 os).forCall (fun _ _=>0) ⟨#[],args,[]⟩).memory:=
 laidMetH_of_parts3 (fuel:=8) (laidMet_of_run' 8 (by kernel_rfl) (by kernel_rfl)) (by kernel_rfl) (by kernel_rfl)
def arg0:Value:=.agg #[.slice none 0 0,.slice none 0 0,.slice none 0 0,.slice none 0 0,.int .i64 0,.int .i64 0]
def arg1:Value:=.agg #[.int .i64 0,.int .i64 0,.int .u8 0,.int .u8 0,.int .u8 0,.int .u8 0,.int .u8 0,.int .u8 0,.int .u8 0,.int .u8 0,.int .u8 0,.int .u8 0,.int .u8 0,.int .u8 0,.int .u8 0,.int .u8 0,.int .u8 0,.int .u8 0,.int .i64 0,.string ⟨#[]⟩,.slice none 0 0]
theorem lifted3(os:Os) (started:os.Started) (H:Type) (enc:TypeId×Value→H) :
  ReturnsInHanded {} Tryz.checked os 3 .any (fun w args=>(Rows.cursorChecksSpec.pre enc Tryz.prog Tryz.f3 [] false w args∧laidMetH Tryz.prog Rows.cursorChecksRow.laid w)∧sizedMet enc Tryz.prog Tryz.f3 (OpenSpec.ofChange Rows.cursorChecksSpec) false w args)
   (Rows.cursorChecksSpec.post enc Tryz.prog Tryz.f3 false true false false):=by
 refine returnsInHanded_of_change_and (C:=Tryz.checked) (X:=fun w _=>laidMetH Tryz.prog Rows.cursorChecksRow.laid w) (fun _ _ _ hh h=>h.of_heap hh) own3 started (by kernel_rfl) Tryz.func3
  (ChangeSpec.witness_shaped (enc:=enc) (C:=Tryz.checked) (os:=os) (X:=fun w _=>laidMetH Tryz.prog Rows.cursorChecksRow.laid w) false (World.doorLaid Tryz.prog 400 os) #[arg0,arg1,arg1] 8 rfl (World.shaped_of_RefB (by kernel_rfl) (by kernel_rfl)) (by kernel_rfl) (by kernel_rfl) (by kernel_rfl) (door_met os _)) ?_
 intro W base args ds gs before hval0 hW _ _ hL _
 have hval:∀ (j:Nat) t v,Tryz.f3.params[j]?=some t→args[j]?=some v→Value.okWide Tryz.prog W .any base t v:=hval0
 have hW':=hW
 obtain⟨p,q,hA0,hV,rfl,_,_⟩:=hW
 have hA:DataW.TrodAll enc Tryz.prog W 0 (fun _=>true) true Tryz.f3.params.toList args.toList ds p:=hA0
 rw[par3]at hA hval
 obtain⟨v0,v1,v2,d0,d1,d2,p0,p1,p2,rfl,rfl,rfl,h0,h1,h2⟩:=trodAll_three hA
 obtain⟨rfl,rfl⟩:=trodVars_none hV
 have k0:=h0
 have k1:=h1
 have k2:=h2
 obtain⟨cs,rfl,hsp⟩:=arg_space (hval 0 25 v0 rfl rfl)
 obtain⟨us,rfl⟩:=arg_agg st32 (hval 1 32 v1 rfl rfl)
 obtain⟨ws,rfl⟩:=arg_agg st32 (hval 2 32 v2 rfl rfl)
 obtain⟨fuel,hf⟩:=h0
 obtain⟨fuel1,hf1⟩:=h1
 obtain⟨fuel2,hf2⟩:=h2
 clear hA0 hval0
 simp only[List.append_nil]at hW'
 have fin:∀ W',Below W.heap.size W W'→Rows.cursorChecksSpec.post enc Tryz.prog Tryz.f3 false true false false W #[.agg cs,.agg us,.agg ws] (.bool true) W':=fun W' hb=>by
  have hlt:∀ x∈p0++(p1++p2),x.block<W.heap.size:=fun x hx=>hW'.lt x (by simpa using hx)
  refine post_below (pa:=p0++(p1++p2)) (pv:=[]) hW' (fun b sp hd=>?_) (fun sp hsp=>?_) (fun _ _=>rfl) (by simp) hb ?_
  ·rw[res3]
   exact trodAll_mk1 ⟨1,by simp [DataW.trod,Value.cells,uP4]⟩
  ·rw[par3]
   have t0:=WideElems.Trod_stays (sp':=sp) laidOut3 (by kernel_rfl) (of_decide_eq_true (by kernel_rfl)) k0 (fun x hx=>hb.same (hlt x (List.mem_append_left _ hx))) (fun x hx=>hsp x (by simp [hx]))
   have t1:=WideElems.Trod_stays (sp':=sp) laidOut3 (by kernel_rfl) (of_decide_eq_true (by kernel_rfl)) k1 (fun x hx=>hb.same (hlt x (List.mem_append_right _ (List.mem_append_left _ hx)))) (fun x hx=>hsp x (by simp [hx]))
   have t2:=WideElems.Trod_stays (sp':=sp) laidOut3 (by kernel_rfl) (of_decide_eq_true (by kernel_rfl)) k2 (fun x hx=>hb.same (hlt x (List.mem_append_right _ (List.mem_append_right _ hx)))) (fun x hx=>hsp x (by simp [hx]))
   exact trodAll_mk3 t0 t1 t2
  ·intro j t r hj hr
   rw[res3]at hj hr
   match j,hj,hr with
   |0,hj,hr=>
    simp [Value.resultList]at hj hr
    subst hj;subst hr
    simp [Value.okWide,uP4,Cell.okWide,Cell.ok]
 obtain⟨S,gs,I,hc⟩:=open_space (W:=W) hsp hf
 obtain⟨c,hcq,hcc⟩:=open_cur (W:=W) hf1
 obtain⟨d,hdq,hdc⟩:=open_cur (W:=W) hf2
 refine(calls3 (glob_of_laid hL) (lawI_of I hcq hdq) (pr_space hc) (pr_cur hcc) (pr_cur hdc)).mono fun e W' ⟨he,hb⟩=>?_
 exact⟨_,he,fin W' hb⟩
end Go.Proofs.YtepjcfcfpjhpgaaGreatDoor

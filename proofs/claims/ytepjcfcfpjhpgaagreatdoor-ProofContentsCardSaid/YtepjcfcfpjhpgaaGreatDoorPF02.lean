/- What is proved: the listed variable is the digest's constants; the law as a call of the model. Conditions: as the row lays it. -/
import Derived.Test.YtepjcfcfpjhpgaaGreatDoorPF01
import Derived.Test.YtepjcfcfpjhpgaaGreatDoorPE13
import Derived.LaidMore
import Derived.ProofKit
set_option linter.all false
set_option maxRecDepth 100000
namespace Go.Proofs
open Go Go.Ai Go.RowKit
def litOf{H:Type}:PV→DataW H
 |.int k n=>.lit (.int k n)
 |_=>.nil
theorem laid_list:@YtepjcfcfpjhpgaaGreatDoor.Rows.laid_understory_understoryref02_constants Unit=.agg (constsV.cells.map litOf):=by kernel_rfl
theorem laid_ints:constsV.cells.all (fun p=>match p with | .int .u32 _=>true|_=>false)=true:=by kernel_rfl
theorem gConst:Tryz.prog.globalNamed "understory/understoryref02.constants" = some 0:=by kernel_rfl
theorem tConst:(Tryz.prog.globals[0]?).map (·.type)=some 384:=by kernel_rfl
theorem uP384:∃ e,Tryz.prog.underlying 384=some (.array 64 e)∧Tryz.prog.underlying e=some (.int .u32)∧Tryz.prog.cellsOf e=1:=by
 exact⟨290,by kernel_rfl,by kernel_rfl,by kernel_rfl⟩
theorem cx_glob{g:Nat} {q:PV} (h:cx.glob g=some q):g=0∧q=constsV:=by
 have h:cond (Nat.beq g 0) (some constsV) none=some q:=h
 cases hb:Nat.beq g 0 with
 |false=>rw[hb]at h;cases h
 |true=>rw[hb]at h;exact⟨Nat.eq_of_beq_eq_true hb,(Option.some.inj h).symm⟩
theorem glob_of_laid{W:World} (h:laidMetH Tryz.prog YtepjcfcfpjhpgaaGreatDoor.Rows.proofContentsRow.laid W):GR cx (rn0 W):=by
 rw[MakeChecks.laidMetH_plain _ _ _ (by kernel_rfl)]at h
 obtain⟨ps,⟨g0,t0,cs0,f0,p0,q0,hg0,ht0,hv0,hd0,_⟩,_⟩:=h
 obtain rfl:=Option.some.inj (gConst.symm.trans hg0)
 obtain rfl:=Option.some.inj (tConst.symm.trans ht0)
 obtain⟨e,ue,ui,ce⟩:=uP384
 obtain⟨xs,m1,rfl,hx1,hlen,hn,hel⟩:=DataW.trod_array ue hd0
 intro g q hq
 obtain⟨rfl,rfl⟩:=cx_glob hq
 refine .cptr fun j y hy=>?_
 have hj:j<64:=by
  have h1:=(List.getElem?_eq_some_iff.1 hy).1
  have h2:constsV.cells.length=64:=by kernel_rfl
  omega
 have hI:=List.all_eq_true.1 laid_ints y (List.mem_of_getElem? hy)
 have hx2:xs.map (·.1)=constsV.cells.map litOf:=by
  have:DataW.agg (xs.map (·.1))=DataW.agg (constsV.cells.map litOf):=(congrArg Prod.fst hx1).symm.trans laid_list
  injection this
 have hxj:(xs.map (·.1))[j]?=some (litOf y):=by rw[hx2,List.getElem?_map,hy];rfl
 rw[List.getElem?_map]at hxj
 cases hxx:xs[j]? with
 |none=>rw[hxx]at hxj;cases hxj
 |some x=>
  rw[hxx]at hxj
  have hx:=Option.some.inj hxj
  have h1:=hel j hj
  rw[ce,Nat.mul_one,hxx]at h1
  obtain⟨n,h2,h3⟩:=DataW.trod_int ui h1
  have h3:=take_drop1 h2
  have hc:=World.var?_cell hg0 hv0 j
  rw[Array.getElem?_toList]at h3
  rw[h3]at hc
  have hfin:y=.int .u32 n:=by
   cases y with
   |int k z=>
    cases k<;>first|(cases hI;done)|skip
    rename_i hh
    rw[hh.1]at hx
    simp [litOf]at hx
    rw[hx]
   |_=>cases hI
  subst hfin
  refine⟨_,?_,rfl,.int _ _⟩
  rw[Nat.zero_add]
  exact cellF_of hc
noncomputable def o4:Orc:=memoC 17 (.p (.bool true)) (fun _ _ _=>none)
theorem o4_ok:OrcOk cx Tryz.prog o4:=memoC_ok (noneOrc_ok _ _) sane18_ok
theorem o4_free:FreeT o4:=fun f args h h1=>by
 unfold o4 memoC
 rw[show Nat.beq f 17=false from Bool.eq_false_iff.2 fun q=>by
  rw[Nat.eq_of_beq_eq_true q]at h1
  cases h1]
 rfl
theorem o4_ct:Ct cx o4 (.fn 17 []) [] (fun e _=>e=.ret (.p (.bool true))):=
 ⟨.ret (.p (.bool true)),[],⟨1,fun k hk=>by obtain⟨k,rfl⟩:∃ i,k=i+1:=⟨k-1,by omega⟩;rfl⟩,rfl⟩
theorem calls4{W:World} {l:Int} {q:PV} {xs:List Itm} {vs:Array Value} {s:ByteArray} (G:GR cx (rn0 W)) (hq:SlP 19 q (xs.map Itm.V)) (hok:∀ x∈xs,x.ok) (hv:PR (frzOf W) (.agg [.int .i64 l,q]) (.agg vs)) :
  Calls Tryz.prog 4 #[.agg vs,.string s] W fun e w'=>e=.returned (.bool true)∧Below W.heap.size W w':=by
 obtain⟨e,h',⟨k0,hk⟩,rfl⟩:=law4 o4_free o4_ct (s:=s.data.toList) (l:=l) hq hok
 have hc:=callN_ok cx_ok o4_ok k0 _ _ _ _ _ _ (hk k0 (Nat.le_refl _))
 have:=calls_of hc (wr0 W) G (vs:=#[.agg vs,.string s]) (by
  refine⟨rfl,fun i x u hx hu'=>?_⟩
  match i,hx,hu' with
  |0,hx,hu'=>cases hx;cases hu';exact .p hv
  |1,hx,hu'=>cases hx;cases hu';exact .p (.str _ _ rfl))
 refine this.mono fun e w' he=>?_
 cases e with
 |returned x=>
  obtain⟨E',A,v',hv',hx⟩:=he
  cases hv'
  have hx:=hx.p_inv
  cases hx
  exact⟨rfl,A.keep.os,A.keep.tape,A.keep.output,A.keep.size,fun b hb=>A.keep.block b hb fun i n hi=>(by simp at hi)⟩
 |panicked c=>obtain⟨E',A,v',x,hv',_⟩:=he;cases hv'
 |outgrown=>exact he.elim
end Go.Proofs

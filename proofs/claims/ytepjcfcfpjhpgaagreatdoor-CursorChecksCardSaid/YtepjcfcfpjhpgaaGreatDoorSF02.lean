/- What is proved: the law as a call in any world whose listed variable holds what the row lists. Conditions: the row's. -/
import Derived.Test.YtepjcfcfpjhpgaaGreatDoorSF01
import Derived.Test.YtepjcfcfpjhpgaaGreatDoorSE11
import Derived.Test.YtepjcfcfpjhpgaaGreatDoorSB02
import Derived.LaidMore
import Derived.ProofKit
set_option linter.all false
set_option maxRecDepth 100000
namespace Go.Proofs
open Go Go.Ai Go.RowKit
def litOf{H:Type}:PV→DataW H
  |.int k n=>.lit (.int k n)
  |_=>.nil
theorem laid_list:@YtepjcfcfpjhpgaaGreatDoor.Rows.laid_understory_understoryref02_constants Unit=.agg (constsV.cells.map litOf):=by kernel_rfl
theorem laid_ints:constsV.cells.all (fun p=>match p with | .int .u32 _=>true|_=>false)=true:=by kernel_rfl
theorem gConst:Tryz.prog.globalNamed "understory/understoryref02.constants" = some 0:=by kernel_rfl
theorem tConst:(Tryz.prog.globals[0]?).map (·.type)=some 384:=by kernel_rfl
theorem uP384:∃ e,Tryz.prog.underlying 384=some (.array 64 e)∧Tryz.prog.underlying e=some (.int .u32)∧Tryz.prog.cellsOf e=1:=by
  exact⟨290,by kernel_rfl,by kernel_rfl,by kernel_rfl⟩
theorem cx_glob{g:Nat} {q:PV} (h:cx.glob g=some q):g=0∧q=constsV:=by
  have h:cond (Nat.beq g 0) (some constsV) none=some q:=h
  cases hb:Nat.beq g 0 with
  |false=>rw[hb]at h;cases h
  |true=>rw[hb]at h;exact⟨Nat.eq_of_beq_eq_true hb,(Option.some.inj h).symm⟩
theorem glob_of_laid{W:World} (h:laidMetH Tryz.prog YtepjcfcfpjhpgaaGreatDoor.Rows.cursorChecksRow.laid W):GR cx (rn0 W):=by
  rw[MakeChecks.laidMetH_plain _ _ _ (by kernel_rfl)]at h
  obtain⟨ps,⟨g0,t0,cs0,f0,p0,q0,hg0,ht0,hv0,hd0,_⟩,_⟩:=h
  obtain rfl:=Option.some.inj (gConst.symm.trans hg0)
  obtain rfl:=Option.some.inj (tConst.symm.trans ht0)
  obtain⟨e,ue,ui,ce⟩:=uP384
  obtain⟨xs,m1,rfl,hx1,hlen,hn,hel⟩:=DataW.trod_array ue hd0
  intro g q hq
  obtain⟨rfl,rfl⟩:=cx_glob hq
  refine .cptr fun j y hy=>?_
  have hj:j<64:=by
    have h1:=(List.getElem?_eq_some_iff.1 hy).1
    have h2:constsV.cells.length=64:=by kernel_rfl
    omega
  have hI:=List.all_eq_true.1 laid_ints y (List.mem_of_getElem? hy)
  have hx2:xs.map (·.1)=constsV.cells.map litOf:=by
    have:DataW.agg (xs.map (·.1))=DataW.agg (constsV.cells.map litOf):=(congrArg Prod.fst hx1).symm.trans laid_list
    injection this
  have hxj:(xs.map (·.1))[j]?=some (litOf y):=by rw[hx2,List.getElem?_map,hy];rfl
  rw[List.getElem?_map]at hxj
  cases hxx:xs[j]? with
  |none=>rw[hxx]at hxj;cases hxj
  |some x=>
    rw[hxx]at hxj
    have hx:=Option.some.inj hxj
    have h1:=hel j hj
    rw[ce,Nat.mul_one,hxx]at h1
    obtain⟨n,h2,h3⟩:=DataW.trod_int ui h1
    have h3:=take_drop1 h2
    have hc:=World.var?_cell hg0 hv0 j
    rw[Array.getElem?_toList]at h3
    rw[h3]at hc
    have hfin:y=.int .u32 n:=by
      cases y with
      |int k z=>
        cases k<;>first|(cases hI;done)|skip
        rename_i hh
        rw[hh.1]at hx
        simp [litOf]at hx
        rw[hx]
      |_=>cases hI
    subst hfin
    refine⟨_,?_,rfl,.int _ _⟩
    rw[Nat.zero_add]
    exact cellF_of hc
noncomputable def o323:Orc:=orElse 323 (insO cx 3 1 8) (fun _ _ _=>none)
theorem o323_ok:OrcOk cx Tryz.prog o323:=by
  refine orElse_ok (noneOrc_ok _ _) fun args h e h' ho=>?_
  obtain⟨z0,hz,hl⟩:∃ z0,zero? cx 3=some z0∧z0.cells.length=1:=by
    cases hz:zero? cx 3 with
    | none => have : (zero? cx 3).isSome = true := by kernel_rfl
              rw[hz]at this;cases this
    | some z => refine ⟨z, rfl, ?_⟩
                have:(zero? cx 3).map (fun z=>z.cells.length)=some 1:=by kernel_rfl
                rw[hz]at this;simpa using this
  exact insO_ok (ti:=Tryz.t3) cx_ok insW323 (by kernel_rfl) (by kernel_rfl) (by kernel_rfl) (by kernel_rfl) rfl rfl rfl (by decide) hz hl (by decide) (by decide) ho
noncomputable def o3:Orc:=memoC 7 (.p (.bool true)) o323
theorem o3_ok:OrcOk cx Tryz.prog o3:=memoC_ok o323_ok sane08_ok
theorem o3_free:FreeT o3:=fun f args h h1 h2=>by
  unfold o3 memoC o323 orElse
  rw[show Nat.beq f 7=false from Bool.eq_false_iff.2 fun q=>h1 (Nat.eq_of_beq_eq_true q),show Nat.beq f 323=false from Bool.eq_false_iff.2 fun q=>h2 (Nat.eq_of_beq_eq_true q)];rfl
theorem o3_ins:HasIns o3:=fun args h=>rfl
theorem o3_ct:Ct cx o3 (.fn 7 []) [] (fun e _=>e=.ret (.p (.bool true))):=
  ⟨.ret (.p (.bool true)),[],⟨1,fun k hk=>by obtain⟨k,rfl⟩:∃ i,k=i+1:=⟨k-1,by omega⟩;rfl⟩,rfl⟩
theorem calls3 {W : World} {S : Spc} {gs : List Pg} {c d : Cur} {vs us ws : Array Value} (G : GR cx (rn0 W)) (I : LawI S gs c d) (hv : PR (frzOf W) S.v (.agg vs)) (hu : PR (frzOf W) c.V (.agg us)) (hw : PR (frzOf W) d.V (.agg ws)) :
    Calls Tryz.prog 3 #[.agg vs,.agg us,.agg ws] W fun e w'=>e=.returned (.bool true)∧Below W.heap.size W w':=by
  obtain⟨e,h',⟨k0,hk⟩,rfl⟩:=law3 o3_free o3_ins o3_ct I
  have hc:=callN_ok cx_ok o3_ok k0 _ _ _ _ _ _ (hk k0 (Nat.le_refl _))
  have:=calls_of hc (wr0 W) G (vs:=#[.agg vs,.agg us,.agg ws]) (by
    refine⟨rfl,fun i x u hx hu'=>?_⟩
    match i,hx,hu' with
    |0,hx,hu'=>cases hx;cases hu';exact .p hv
    |1,hx,hu'=>cases hx;cases hu';exact .p hu
    |2,hx,hu'=>cases hx;cases hu';exact .p hw)
  refine this.mono fun e w' he=>?_
  cases e with
  |returned x=>
    obtain⟨E',A,v',hv',hx⟩:=he
    cases hv'
    have hx:=hx.p_inv
    cases hx
    exact⟨rfl,A.keep.os,A.keep.tape,A.keep.output,A.keep.size,fun b hb=>A.keep.block b hb fun i n hi=>(by simp at hi)⟩
  |panicked c=>obtain⟨E',A,v',x,hv',_⟩:=he;cases hv'
  |outgrown=>exact he.elim
end Go.Proofs

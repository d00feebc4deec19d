/- What is proved: slices.Insert of the seat's program, at three types of elements. Conditions: none. -/
import Derived.Test.YtepjcfcfpjhpgaaGreatDoorPA09
import Derived.WalkKit
import Derived.WalkSpells
import Derived.Lib.Walk
import Derived.Lib.SliceRun
import Derived.Shelf.Spec.SlicesInsert
import Derived.Test.YtepjcfcfpjhpgaaGreatDoorProg
import Derived.Test.YtepjcfcfpjhpgaaGreatDoorPB01
set_option linter.all false
namespace Go.Proofs
open Go.RowKit Go.Lib Go.Shelf
set_option maxHeartbeats 2000000 in
set_option maxRecDepth 100000 in
theorem ins323_shift(w w1 w2:World) (b n c i vb voff vc:Nat) (hi:i<n) (hroom:n+1≤c) (hc63:n<9223372036854775807)
  (hov:∀ lb cb,(callFunc 355 #[.slice (some ⟨vb,voff,none⟩) 1 vc,.slice (some ⟨b,(i+1),none⟩) lb cb]).run Tryz.prog w=.ok (.value (.bool false)) w)
  (hcp1:∀ ty dc sc,(Builtin.copy_ #[23,23] ty #[.slice (some ⟨b,(i+1),none⟩) (n-i) dc,.slice (some ⟨b,i,none⟩) (n+1-i) sc]).run Tryz.prog w.drew=.ok (goInt ((n-i:Nat):Int)) w1)
  (hcp2:∀ ty dc,(Builtin.copy_ #[23,23] ty #[.slice (some ⟨b,i,none⟩) (n+1-i) dc,.slice (some ⟨vb,voff,none⟩) 1 vc]).run Tryz.prog w1=.ok (goInt 1) w2) :
  Calls Tryz.prog 323 #[.slice (some ⟨b,0,none⟩) n c,.int .i64 i,.slice (some ⟨vb,voff,none⟩) 1 vc] w fun e w'=>
   e=.returned (.slice (some ⟨b,0,none⟩) (n+1) c)∧w'=w2:=by
 have hz2:¬ ((i:Int)=(n:Int)):=by omega
 have hw1:IntKind.i64.wrap ((i:Int)+1)=(i:Int)+1:=by rw[IntKind.wrap_i64];omega
 have hw2:IntKind.i64.wrap ((n:Int)+1)=(n:Int)+1:=by rw[IntKind.wrap_i64];omega
 have hb1:(0:Int)≤(i:Int)+1:=by omega
 have hin:i≤n:=by omega
 have htn:((i:Int)+1).toNat=i+1:=by omega
 have htn2:((n:Int)+1).toNat=n+1:=by omega
 have hb2:¬ (c=i+1):=by omega
 have hb3:(i:Int)≤(n:Int)+1:=by omega
 have hb4:¬ (c=i):=by omega
 have mixed:Tryz.prog.follows .mixedOrders=true:=by kernel_rfl
 go_enter Tryz.func323,Tryz.ntmps323
 go_wp2_with (simp only[hov])
 go_region_law_o (refine step_copy_runI rfl _ _ 23 23 rfl _ _ (by simp [Act.eval,Act.put]) (by simp [Act.eval,Act.put]) (hcp1 _ _ _) ?_)
 go_wp2_with (at_builtin;refine wpList_copy_runI _ rfl _ _ 23 23 rfl _ _ rfl rfl (hcp2 _ _) ?_)
 go_ret
 exact⟨rfl,rfl⟩
set_option maxHeartbeats 2000000 in
set_option maxRecDepth 100000 in
theorem ins323_grow(w w1 w2 w3:World) (b n c i vb voff vc g G:Nat) (hi:i<n) (hnc:n≤c) (hroom:c<n+1) (hc63:n<9223372036854775807) (hG:n+1≤G)
  (hrz:∀ ty,(Builtin.append_ #[23,3] ty #[.slice (some ⟨b,0,none⟩) i c,.int .i64 ((n:Int)+1-(i:Int))]).run Tryz.prog w=.ok (.slice (some ⟨g,0,none⟩) (n+1) G) w1)
  (hcpA:∀ ty dc,(Builtin.copy_ #[23,23] ty #[.slice (some ⟨g,i,none⟩) (n+1-i) dc,.slice (some ⟨vb,voff,none⟩) 1 vc]).run Tryz.prog w1=.ok (goInt 1) w2)
  (hcpB:∀ ty dc sc,(Builtin.copy_ #[23,23] ty #[.slice (some ⟨g,(i+1),none⟩) (n-i) dc,.slice (some ⟨b,i,none⟩) (n-i) sc]).run Tryz.prog w2.drew=.ok (goInt ((n-i:Nat):Int)) w3) :
  Calls Tryz.prog 323 #[.slice (some ⟨b,0,none⟩) n c,.int .i64 i,.slice (some ⟨vb,voff,none⟩) 1 vc] w fun e w'=>
   e=.returned (.slice (some ⟨g,0,none⟩) (n+1) G)∧w'=w3:=by
 have hz2:¬ ((i:Int)=(n:Int)):=by omega
 have hz3:(c:Int)<(n:Int)+1:=by omega
 have hw1:IntKind.i64.wrap ((i:Int)+1)=(i:Int)+1:=by rw[IntKind.wrap_i64];omega
 have hw2:IntKind.i64.wrap ((n:Int)+1)=(n:Int)+1:=by rw[IntKind.wrap_i64];omega
 have hw3:IntKind.i64.wrap ((n:Int)+1-(i:Int))=(n:Int)+1-(i:Int):=by rw[IntKind.wrap_i64];omega
 have hb1:(0:Int)≤(i:Int)+1:=by omega
 have hin:i≤n:=by omega
 have htn:((i:Int)+1).toNat=i+1:=by omega
 have hb3:(i:Int)≤(n:Int)+1:=by omega
 have hb4:¬ (c=i):=by omega
 have hGi:¬ (G=i):=by omega
 have hGim:¬ (G=i+1):=by omega
 have mixed:Tryz.prog.follows .mixedOrders=true:=by kernel_rfl
 go_enter Tryz.func323,Tryz.ntmps323
 go_wp2_with (first
  | (at_builtin;refine Lib.wpList_append_run _ rfl _ _ _ _ rfl _ _ rfl rfl _ _ (hrz _) ?_)
  | (at_builtin;refine wpList_copy_runI _ rfl _ _ 23 23 rfl _ _ rfl rfl (hcpA _ _) ?_))
 go_region_law_o (refine step_copy_runI rfl _ _ 23 23 rfl _ _ (by simp [Act.eval,Act.put]) (by simp [Act.eval,Act.put]) (hcpB _ _ _) ?_)
 go_wp2
 go_ret
 exact⟨rfl,rfl⟩
set_option maxHeartbeats 2000000 in
set_option maxRecDepth 100000 in
theorem ins323_end(w w1:World) (base:Option Addr) (n c vb voff vc:Nat) (r:Value) (hnc:n≤c) (hc63:n<9223372036854775807)
  (happ:∀ ty,(Builtin.append_ #[23,23] ty #[.slice base n c,.slice (some ⟨vb,voff,none⟩) 1 vc]).run Tryz.prog w=.ok r w1) :
  Calls Tryz.prog 323 #[.slice base n c,.int .i64 n,.slice (some ⟨vb,voff,none⟩) 1 vc] w fun e w'=>e=.returned r∧w'=w1:=by
 have mixed:Tryz.prog.follows .mixedOrders=true:=by kernel_rfl
 cases base with
 |none=>
  go_enter Tryz.func323,Tryz.ntmps323
  go_wp2_with (at_builtin;refine Lib.wpList_append_run _ rfl _ _ _ _ rfl _ _ rfl rfl _ _ (happ _) ?_)
  all_goals(go_ret;exact⟨rfl,rfl⟩)
 |some a=>
  go_enter Tryz.func323,Tryz.ntmps323
  go_wp2_with (at_builtin;refine Lib.wpList_append_run _ rfl _ _ _ _ rfl _ _ rfl rfl _ _ (happ _) ?_)
  all_goals(go_ret;exact⟨rfl,rfl⟩)
theorem insW323:Go.Ai.InsWalks Tryz.prog 323 23 23 355 1 where
 enter vs w:=by
  have e1:(program:Sem Program).run Tryz.prog w=.ok Tryz.prog w:=rfl
  unfold callFunc
  rw[Sem.run_bind,e1]
  have hname:¬Tryz.f323.name = "runtime.NumGoroutine" := by
   have:(Tryz.f323.name == "runtime.NumGoroutine")=false:=rfl
   simpa using this
  have hb:Tryz.f323.body.isNone=false:=rfl
  have hb':Tryz.f323.body ≠ none:=by intro h;rw[h]at hb;cases hb
  simp [Tryz.func323,hname,hb']
 shift w w1 w2 b n c i vb voff vc h1 h2 h3 h4 h5 h6:=ins323_shift w w1 w2 b n c i vb voff vc h1 h2 h3 (by simpa using h4) (by simpa using h5) (by simpa using h6)
 grow w w1 w2 w3 b n c i vb voff vc g G h1 h2 h3 h4 h5 h6 h7 h8:=ins323_grow w w1 w2 w3 b n c i vb voff vc g G h1 h2 h3 h4 h5 h6 (by simpa using h7) (by simpa using h8)
 fin w w1 base n c vb voff vc r h1 h2 h3:=ins323_end w w1 base n c vb voff vc r h1 h2 h3
end Go.Proofs
namespace Go.Proofs
open Go Go.Ai
set_option maxRecDepth 1000000
noncomputable def insOrc:Orc:=orElse 323 (insO cx 3 1 8) (fun _ _ _=>none)
theorem insOrc_ok:OrcOk cx Tryz.prog insOrc:=by
  refine orElse_ok (noneOrc_ok _ _) ?_
  intro args h e h' ho
  obtain⟨z0,hz,hl⟩:∃ z0,zero? cx 3=some z0∧z0.cells.length=1:=by
    cases hz:zero? cx 3 with
    | none => have : (zero? cx 3).isSome = true := by kernel_rfl
              rw[hz]at this;cases this
    | some z => refine ⟨z, rfl, ?_⟩
                have:(zero? cx 3).map (fun z=>z.cells.length)=some 1:=by kernel_rfl
                rw[hz]at this;simpa using this
  exact insO_ok (ti:=Tryz.t3) cx_ok insW323 (by kernel_rfl) (by kernel_rfl) (by kernel_rfl) (by kernel_rfl) rfl rfl rfl (by decide) hz hl (by decide) (by decide) ho
end Go.Proofs

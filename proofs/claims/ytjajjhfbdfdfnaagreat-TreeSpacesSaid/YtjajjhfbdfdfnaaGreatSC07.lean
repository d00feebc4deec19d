/- What is proved: contracts of Alloc and Release. Conditions: as before. -/
import Derived.Test.YtjajjhfbdfdfnaaGreatSC06
set_option linter.all false
set_option maxRecDepth 100000
namespace Go.Proofs
open Go Go.Ai
theorem def47_ret {o : Orc} {h : List Ob} {j : Nat} {n : Int} (hj : hget h j = .cells 25 [.p (.int .i64 n)]) : DefRun cx o 47 j h .ret (hset h j (.cells 25 [.p (.int .i64 n)])) .ret := by
 obtain ⟨e, h', r', ⟨k0, hk⟩, rfl, rfl, rfl⟩ := rec47_ret (o := o) n
 exact inner_cell (cs := [.int .i64 n]) (cs' := [.int .i64 n]) (ext := []) hj rfl rfl rfl ⟨k0, hk⟩
theorem def47_pan {o : Orc} {h : List Ob} {j : Nat} {n x : Int} (hj : hget h j = .cells 25 [.p (.int .i64 n)]) : DefRun cx o 47 j h (.pan (.p (failV x)) false) (hset h j (.cells 25 [.p (.int .i64 x)])) (.pan (.p (failV x)) true) := by
 obtain ⟨e, h', r', ⟨k0, hk⟩, rfl, ⟨ext, rfl⟩, rfl⟩ := rec47_pan (o := o) n x
 exact inner_cell (cs := [.int .i64 n]) (cs' := [.int .i64 x]) (ext := ext) hj rfl rfl rfl ⟨k0, hk⟩
def zeroSpace : PV := .agg [.nils, .nils, .nils, .nils, .int .i64 0, .int .i64 0]
theorem z41 : zero? cx 41 = some zeroSpace := by kernel_rfl
def Spc.cl2 (S : Spc) : CV := clV 3 1 (.pv S.p2) (ints S.fs)
def Spc.cl1 (S : Spc) : CV := clV 3 1 (.pv S.p1) (ints S.fr)
def Spc.cl3 (S : Spc) : CV := clV 3 1 (.pv S.p3) (ints S.gn)
noncomputable def allocR (S : Spc) : QE := @ite _ S.Sound (Classical.propDecidable _)
 (match S.fr with
  | x :: l => .vals [.agg [.own 79 10 S.pgs, .own 3 1 (ints l), withV S.cl2 S.fs x, S.cl3, .pv (.int .i64 S.ver), .pv (.int .i64 S.tr)], .pv (.int .i64 x), .pv (.int .i64 0)]
  | [] => if S.pgs.length < 4096 then .vals [.agg [.own 79 10 (S.pgs ++ [zeroPage]), S.cl1, withV S.cl2 S.fs (S.pgs.length : Nat), S.cl3, .pv (.int .i64 S.ver), .pv (.int .i64 S.tr)], .pv (.int .i64 (S.pgs.length : Nat)), .pv (.int .i64 0)]
   else .vals [.pv zeroSpace, .pv (.int .i64 0), .pv (.int .i64 7)])
 (.vals [.pv zeroSpace, .pv (.int .i64 0), .pv (.int .i64 2)])
theorem allocR_f {S : Spc} (h : ¬S.Sound) : allocR S = .vals [.pv zeroSpace, .pv (.int .i64 0), .pv (.int .i64 2)] := @if_neg _ (Classical.propDecidable _) h _ _ _
theorem allocR_t {S : Spc} (h : S.Sound) : allocR S = (match S.fr with
  | x :: l => .vals [.agg [.own 79 10 S.pgs, .own 3 1 (ints l), withV S.cl2 S.fs x, S.cl3, .pv (.int .i64 S.ver), .pv (.int .i64 S.tr)], .pv (.int .i64 x), .pv (.int .i64 0)]
  | [] => if S.pgs.length < 4096 then .vals [.agg [.own 79 10 (S.pgs ++ [zeroPage]), S.cl1, withV S.cl2 S.fs (S.pgs.length : Nat), S.cl3, .pv (.int .i64 S.ver), .pv (.int .i64 S.tr)], .pv (.int .i64 (S.pgs.length : Nat)), .pv (.int .i64 0)]
   else .vals [.pv zeroSpace, .pv (.int .i64 0), .pv (.int .i64 7)]) := @if_pos _ (Classical.propDecidable _) h _ _ _
theorem mkAgg_own {h : List Ob} {e sz xs} {v : AV} {l : List AV} (H : Co1 h v (.own e sz xs)) : mkAgg (v :: l) = .agg (v :: l) := by
 cases H with
 | own hr => rfl
theorem ct14D {o args h P} (ho : o 14 args h = none) (ha : Nat.ble args.length 15 = true) (hw : xC cx o none sc14 (endD cx o [.cell 2 41, .tmp 3, .cell 4 25] 47 P) (argT args 0 .lf) h [] none) : Ct cx o (.fn 14 args) h P :=
 ct_def 47 fn14 sc14_ok rfl rfl ho ha sc14_dst hw
theorem endD_ret {o : Orc} {rs g P t h j} {r : Option RM} (h1 : List Ob) (vs : List AV) (hd : DefRun cx o g j h .ret h1 .ret) (hr : results? cx h1 t rs = some vs) (hP : P (.ret (vals vs)) h1) (hn : r = none) : endD cx o rs g P .ret t h [.fn g [.ptr j 0]] r := ⟨hn, j, rfl, h1, hd, vs, hr, hP⟩
theorem endD_pan {o : Orc} {rs g P t h j v} {r : Option RM} (h1 : List Ob) (vs : List AV) (hd : DefRun cx o g j h (.pan v false) h1 (.pan v true)) (hr : results? cx h1 t rs = some vs) (hP : P (.ret (vals vs)) h1) (hn : r = none) : endD cx o rs g P (.pan v) t h [.fn g [.ptr j 0]] r := ⟨hn, j, rfl, h1, hd, vs, hr, hP⟩
section
variable {o : Orc} (ho : FreeT o)
include ho
theorem open_pan {S : Spc} (O : SpcOk S) (hs : ¬S.Sound) {h dst t d r K Q} : callW cx o dst t h d r (some (.fn 48 [.p S.v, .p .nils])) K Q = Q (.pan (.p (failV 2))) t h d r :=
 callW_pan ext48 (cs_panP (f := 48) (ps := [S.v, .nils]) (open48_f ho O hs))
theorem open_cs (hI : HasIns o) {S : Spc} (O : SpcOk S) (hs : S.Sound) (h : List Ob) : ∃ j cs ext, CS cx o (.fn 48 [.p S.v, .p .nils]) h (.ret (.ptr j 0)) (h ++ ext) ∧ hget (h ++ ext) j = .cells 101 cs ∧ L2 (Co1 (h ++ ext)) cs S.cvs := by
 obtain ⟨e, ext, h1, h2⟩ := cs_valP (h := h) (ps := [S.v, .nils]) (open48_t ho hI O hs)
 cases h2 with
 | ptr h3 h4 => exact ⟨_, _, ext, h1, h3, h4⟩
theorem meth_cs {f : FuncId} {h j cs cvs qcvs bs ps qe} (hj : hget h j = .cells 101 cs) (H : L2 (Co1 h) cs cvs) (Ha : L2 (Co h) bs ps) (hq : ∀ e qs, qe ≠ .ptr e qs)
  (hc : ∀ h0 cs0 as0, hget h0 0 = .cells 101 cs0 → L2 (Co1 h0) cs0 cvs → L2 (Co h0) as0 ps →
   Ct cx o (.fn f (.ptr 0 0 :: as0)) h0 fun e h1 => FU h0 h1 ∧ (∃ cs1, hget h1 0 = .cells 101 cs1 ∧ L2 (Co1 h1) cs1 qcvs) ∧ CoE h1 e qe) :
  ∃ e h1, CS cx o (.fn f (.ptr j 0 :: bs)) h e h1 ∧ (∃ cs1, hget h1 j = .cells 101 cs1 ∧ L2 (Co1 h1) cs1 qcvs) ∧ CoE h1 e qe ∧ h.length ≤ h1.length ∧
   ∀ k, k < h.length → k ≠ j → flat (hget h k) = false → hget h1 k = hget h k := by
 obtain ⟨e, h1, p1, p2, p3, p4, p5, _⟩ := cs_ptr (c := cx) (o := o) (f := f) hj H Ha hq fun h0 cs0 as0 b1 b2 b3 b4 => by
  obtain ⟨e, h1, hr, q1, q2, q3⟩ := hc h0 cs0 as0 b1 b3 b4
  exact ⟨e, h1, hr, q1.1, fun j a b => q1.2 j a b (b2 j a b), q2, q3⟩
 refine ⟨e, h1, p1, p3, p4, p2, fun k hk hkj hf => p5 k hk hkj (fun q => ?_) (fun q => ?_)⟩
 ·have := H.flat1 k q; rw [hf] at this; cases this
 ·have := Ha.flat k q; rw [hf] at this; cases this
theorem alloc_ok (hI : HasIns o) {S : Spc} (O : SpcOk S) (hs : S.Sound) {x : Int} {ps : List PV} {q : List CV} (hql : q.length = 5)
  (take : ∀ h0 cs0, hget h0 0 = .cells 101 cs0 → L2 (Co1 h0) cs0 S.cvs → Ct cx o (.fn 49 [.ptr 0 0]) h0 (fun e h1 => FU h0 h1 ∧ (∃ cs1, hget h1 0 = .cells 101 cs1 ∧ L2 (Co1 h1) cs1 (.own 79 10 ps :: q)) ∧ CoE h1 e (.val (.pv (.int .i64 x))))) :
  Ct cx o (.fn 14 [.p S.v]) [] (fun e h1 => CoE h1 e (.vals [.agg (.own 79 10 ps :: q), .pv (.int .i64 x), .pv (.int .i64 0)])) := by
 have zc : zeroSpace.cells.map AV.p = [.p .nils, .p .nils, .p .nils, .p .nils, .p (.int .i64 0), .p (.int .i64 0)] := rfl
 have z25c : (PV.int .i64 0).cells.map AV.p = [.p (.int .i64 0)] := rfl
 refine ct14D (ho _ _ _ (by decide) (by decide)) rfl ?_
 have zl : ∀ (a c : Ob), load? cx [a, .cells 41 [.p .nils, .p .nils, .p .nils, .p .nils, .p (.int .i64 0), .p (.int .i64 0)], c] 41 (.ptr 1 0) = some (.p zeroSpace) := fun a c => (load_whole a41 s41 rfl rfl).trans rfl
 obtain ⟨j, cs, ext, p1, hj, hL⟩ := open_cs ho hI O hs [Ob.cells 41 S.cells, .cells 41 [.p .nils, .p .nils, .p .nils, .p .nils, .p (.int .i64 0), .p (.int .i64 0)], .cells 25 [.p (.int .i64 0)]]
 have g0 : hget ([Ob.cells 41 S.cells, .cells 41 [.p .nils, .p .nils, .p .nils, .p .nils, .p (.int .i64 0), .p (.int .i64 0)], .cells 25 [.p (.int .i64 0)]] ++ ext) 0 = .cells 41 S.cells := rfl
 have g1 : hget ([Ob.cells 41 S.cells, .cells 41 [.p .nils, .p .nils, .p .nils, .p .nils, .p (.int .i64 0), .p (.int .i64 0)], .cells 25 [.p (.int .i64 0)]] ++ ext) 1 = .cells 41 [.p .nils, .p .nils, .p .nils, .p .nils, .p (.int .i64 0), .p (.int .i64 0)] := rfl
 have g2 : hget ([Ob.cells 41 S.cells, .cells 41 [.p .nils, .p .nils, .p .nils, .p .nils, .p (.int .i64 0), .p (.int .i64 0)], .cells 25 [.p (.int .i64 0)]] ++ ext) 2 = .cells 25 [.p (.int .i64 0)] := rfl
 have hj1 : j ≠ 1 := by rintro rfl; rw [g1] at hj; cases hj
 have hj2 : j ≠ 2 := by rintro rfl; rw [g2] at hj; cases hj
 generalize hM1 : [Ob.cells 41 S.cells, .cells 41 [.p .nils, .p .nils, .p .nils, .p .nils, .p (.int .i64 0), .p (.int .i64 0)], .cells 25 [.p (.int .i64 0)]] ++ ext = M1 at *
 obtain ⟨e, M2, p2, ⟨cs1, k1, k2⟩, k3, k4, k5⟩ := meth_cs ho (f := 49) (bs := []) (ps := []) (qcvs := .own 79 10 ps :: q) (qe := .val (.pv (.int .i64 x))) hj hL .nil (fun e qs q => by cases q) (fun h0 cs0 as0 b1 b2 b3 => by cases b3; exact take h0 cs0 b1 b2)
 obtain ⟨v2, rfl, hv2⟩ := k3.val_inv
 have hv2' := hv2.pv_int
 subst hv2'
 have y1 := (k5 1 (hget_cells_lt g1) (Ne.symm hj1) (by rw [g1]; rfl)).trans g1
 have y2 := (k5 2 (hget_cells_lt g2) (Ne.symm hj2) (by rw [g2]; rfl)).trans g2
 have hlen : cs1.length = 6 := by rw [k2.length, List.length_cons, hql]
 have lw : load? cx M2 41 (.ptr j 0) = some (.agg cs1) := by
  rw [load_whole a41 s41 k1 hlen]
  cases k2 with
  | cons a b => rw [mkAgg_own a]
 have st1 := store_whole (c := cx) s41 y1 (show (AV.agg cs1).cells? = some cs1 from rfl) hlen rfl
 have l1 := hget_cells_lt y1
 have l2 := hget_cells_lt y2
 have y3 : hget (hset M2 1 (.cells 41 cs1)) 2 = .cells 25 [.p (.int .i64 0)] := by rw [hget_hset _ _ _ _ l1, if_neg (by decide)]; exact y2
 have st2 := store_one (c := cx) (v := .int .i64 0) s25 y3 rfl (show 0 < 1 by decide)
 have nf1 : flat (hget M2 1) = false := by rw [y1]; rfl
 have nf2 : flat (hget (hset M2 1 (.cells 41 cs1)) 2) = false := by rw [y3]; rfl
 have l3 := hget_cells_lt y3
 have y4 : hget (hset (hset M2 1 (.cells 41 cs1)) 2 (.cells 25 [.p (.int .i64 0)])) 2 = .cells 25 [.p (.int .i64 0)] := by rw [hget_hset _ _ _ _ l3, if_pos rfl]
 have y5 : hget (hset (hset M2 1 (.cells 41 cs1)) 2 (.cells 25 [.p (.int .i64 0)])) 1 = .cells 41 cs1 := by rw [hget_hset _ _ _ _ l3, if_neg (by decide), hget_hset _ _ _ _ l1, if_pos rfl]
 simp only [sc14, sc14r0, sc14r1, sc14r2, sc14r3, sc14r4, ↓rwS, rwT, rwG, Nat.reduceEqDiff, Nat.reduceAdd, reduceCtorEq, Nat.reduceLT, hbox, z41, z25, zc, z25c, List.cons_append, List.nil_append, List.length_cons, List.length_nil, ldS, callW_ret ext48 p1, hM1, callW_ret ext49 p2, fA, lw, st1, st2, List.set_cons_zero]
 refine endD_ret _ [.agg cs1, .p (.int .i64 x), .p (.int .i64 0)] (def47_ret y4) ?_ ?_ rfl
 ·rw [hset_hset]
  have e1 : load? cx (hset (hset M2 1 (.cells 41 cs1)) 2 (.cells 25 [.p (.int .i64 0)])) 41 (.ptr 1 0) = some (.agg cs1) := by
   rw [load_whole a41 s41 y5 hlen]
   cases k2 with
   | cons a b => rw [mkAgg_own a]
  have e2 : load? cx (hset (hset M2 1 (.cells 41 cs1)) 2 (.cells 25 [.p (.int .i64 0)])) 25 (.ptr 2 0) = some (.p (.int .i64 0)) := load_one a25 y4 rfl
  simp only [↓rwA, rwB, rwG, Nat.reduceEqDiff, Nat.reduceAdd, reduceCtorEq, Nat.reduceLT, e1, e2]
 ·rw [hset_hset]
  exact .vals (.cons (.agg (k2.imp fun a b hab => (hab.hset nf1).hset nf2)) (.cons (.one (.p _)) (.cons (.one (.p _)) .nil)))
theorem alloc14 (hI : HasIns o) {S : Spc} (O : SpcOk S) : Ct cx o (.fn 14 [.p S.v]) [] (fun e h1 => CoE h1 e (allocR S)) := by
 have zc : zeroSpace.cells.map AV.p = [.p .nils, .p .nils, .p .nils, .p .nils, .p (.int .i64 0), .p (.int .i64 0)] := rfl
 have z25c : (PV.int .i64 0).cells.map AV.p = [.p (.int .i64 0)] := rfl
 have zl : ∀ (a c : Ob), load? cx [a, .cells 41 [.p .nils, .p .nils, .p .nils, .p .nils, .p (.int .i64 0), .p (.int .i64 0)], c] 41 (.ptr 1 0) = some (.p zeroSpace) := fun a c => (load_whole a41 s41 rfl rfl).trans rfl
 by_cases hs : S.Sound
 case neg =>
  refine ct14D (ho _ _ _ (by decide) (by decide)) rfl ?_
  simp only [sc14, sc14r0, sc14r1, sc14r2, ↓rwS, rwT, rwG, Nat.reduceEqDiff, Nat.reduceAdd, reduceCtorEq, Nat.reduceLT, hbox, z41, z25, zc, z25c, List.cons_append, List.nil_append, List.length_cons, List.length_nil, ldS, open_pan ho O hs]
  refine endD_pan _ [.p zeroSpace, .p (.int .i64 0), .p (.int .i64 2)] (def47_pan (n := 0) rfl) ?_ ?_ rfl
  ·have e1 : hset [Ob.cells 41 S.cells, .cells 41 [.p .nils, .p .nils, .p .nils, .p .nils, .p (.int .i64 0), .p (.int .i64 0)], .cells 25 [.p (.int .i64 0)]] 2 (.cells 25 [.p (.int .i64 2)]) = [Ob.cells 41 S.cells, .cells 41 [.p .nils, .p .nils, .p .nils, .p .nils, .p (.int .i64 0), .p (.int .i64 0)], .cells 25 [.p (.int .i64 2)]] := rfl
   rw [e1]
   have e2 : load? cx [Ob.cells 41 S.cells, .cells 41 [.p .nils, .p .nils, .p .nils, .p .nils, .p (.int .i64 0), .p (.int .i64 0)], .cells 25 [.p (.int .i64 2)]] 25 (.ptr 2 0) = some (.p (.int .i64 2)) := load_one a25 rfl rfl
   simp only [↓rwA, rwB, rwG, Nat.reduceEqDiff, Nat.reduceAdd, reduceCtorEq, Nat.reduceLT, zl, e2]
  ·rw [allocR_f hs]
   exact .vals (.cons (.one (.p _)) (.cons (.one (.p _)) (.cons (.one (.p _)) .nil)))
 rw [allocR_t hs]
 have i2 : Inc S.fs := (hs.2.1 1 (by decide)).inc
 have c2 : IsS 1 S.cl2 (ints S.fs) := clV_is O.h2.is
 have c1 : IsS 1 S.cl1 (ints S.fr) := clV_is O.h1.is
 have c3 : IsS 1 S.cl3 (ints S.gn) := clV_is O.h3.is
 have l1 := O.l1
 have l2 := O.l2
 cases hfr : S.fr with
 | cons x l =>
  simp only
  have e1 : S.cl1 = .own 3 1 (ints (x :: l)) := by
   have := O.h1
   unfold Spc.cl1
   rw [hfr] at this ⊢
   generalize S.p1 = p at this
   generalize hxs : ints (x :: l) = xs at this
   cases this with
   | nil => cases hxs
   | vec => rfl
  rw [hfr, List.length_cons] at l1
  refine alloc_ok ho hI O hs (x := x) (ps := S.pgs) (q := [.own 3 1 (ints l), withV S.cl2 S.fs x, S.cl3, .pv (.int .i64 S.ver), .pv (.int .i64 S.tr)]) rfl fun h0 cs0 b1 b2 => ?_
  have b2 : L2 (Co1 h0) cs0 [.own 79 10 S.pgs, S.cl1, S.cl2, S.cl3, .pv (.int .i64 S.ver), .pv (.int .i64 S.tr)] := b2
  rw [e1] at b2
  exact take49_a ho hI b1 b2 c2 i2 (by omega) l2
 | nil =>
  simp only
  rw [hfr] at c1
  by_cases hp : S.pgs.length < 4096
  ·rw [if_pos hp]
   refine alloc_ok ho hI O hs (x := (S.pgs.length : Nat)) (ps := S.pgs ++ [zeroPage]) (q := [S.cl1, withV S.cl2 S.fs (S.pgs.length : Nat), S.cl3, .pv (.int .i64 S.ver), .pv (.int .i64 S.tr)]) rfl fun h0 cs0 b1 b2 => ?_
   exact take49_b ho hI b1 b2 c1 c2 c3 i2 hp (by have := hs.1.1; intro q; rw [q] at this; simp at this) l2
  ·rw [if_neg hp]
   refine ct14D (ho _ _ _ (by decide) (by decide)) rfl ?_
   obtain ⟨j, cs, ext, p1, hj, hL⟩ := open_cs ho hI O hs [Ob.cells 41 S.cells, .cells 41 [.p .nils, .p .nils, .p .nils, .p .nils, .p (.int .i64 0), .p (.int .i64 0)], .cells 25 [.p (.int .i64 0)]]
   have g1 : hget ([Ob.cells 41 S.cells, .cells 41 [.p .nils, .p .nils, .p .nils, .p .nils, .p (.int .i64 0), .p (.int .i64 0)], .cells 25 [.p (.int .i64 0)]] ++ ext) 1 = .cells 41 [.p .nils, .p .nils, .p .nils, .p .nils, .p (.int .i64 0), .p (.int .i64 0)] := rfl
   have g2 : hget ([Ob.cells 41 S.cells, .cells 41 [.p .nils, .p .nils, .p .nils, .p .nils, .p (.int .i64 0), .p (.int .i64 0)], .cells 25 [.p (.int .i64 0)]] ++ ext) 2 = .cells 25 [.p (.int .i64 0)] := rfl
   have hj1 : j ≠ 1 := by rintro rfl; rw [g1] at hj; cases hj
   have hj2 : j ≠ 2 := by rintro rfl; rw [g2] at hj; cases hj
   generalize hM1 : [Ob.cells 41 S.cells, .cells 41 [.p .nils, .p .nils, .p .nils, .p .nils, .p (.int .i64 0), .p (.int .i64 0)], .cells 25 [.p (.int .i64 0)]] ++ ext = M1 at *
   obtain ⟨e, M2, p2, _, k3, k4, k5⟩ := meth_cs ho (f := 49) (bs := []) (ps := []) (qcvs := S.cvs) (qe := .pan (failV 7)) hj hL .nil (fun e qs q => by cases q) (fun h0 cs0 as0 b1 b2 b3 => by cases b3; exact take49_c ho hI b1 b2 c1 (by omega))
   cases k3
   have y1 := (k5 1 (hget_cells_lt g1) (Ne.symm hj1) (by rw [g1]; rfl)).trans g1
   have y2 := (k5 2 (hget_cells_lt g2) (Ne.symm hj2) (by rw [g2]; rfl)).trans g2
   have l3 := hget_cells_lt y2
   have y4 : hget (hset M2 2 (.cells 25 [.p (.int .i64 7)])) 2 = .cells 25 [.p (.int .i64 7)] := by rw [hget_hset _ _ _ _ l3, if_pos rfl]
   have y5 : hget (hset M2 2 (.cells 25 [.p (.int .i64 7)])) 1 = .cells 41 [.p .nils, .p .nils, .p .nils, .p .nils, .p (.int .i64 0), .p (.int .i64 0)] := by rw [hget_hset _ _ _ _ l3, if_neg (by decide)]; exact y1
   simp only [sc14, sc14r0, sc14r1, sc14r2, sc14r3, ↓rwS, rwT, rwG, Nat.reduceEqDiff, Nat.reduceAdd, reduceCtorEq, Nat.reduceLT, hbox, z41, z25, zc, z25c, List.cons_append, List.nil_append, List.length_cons, List.length_nil, ldS, callW_ret ext48 p1, hM1, callW_pan ext49 p2]
   refine endD_pan _ [.p zeroSpace, .p (.int .i64 0), .p (.int .i64 7)] (def47_pan y2) ?_ ?_ rfl
   ·have e1 : load? cx (hset M2 2 (.cells 25 [.p (.int .i64 7)])) 41 (.ptr 1 0) = some (.p zeroSpace) := (load_whole a41 s41 y5 rfl).trans rfl
    have e2 : load? cx (hset M2 2 (.cells 25 [.p (.int .i64 7)])) 25 (.ptr 2 0) = some (.p (.int .i64 7)) := load_one a25 y4 rfl
    simp only [↓rwA, rwB, rwG, Nat.reduceEqDiff, Nat.reduceAdd, reduceCtorEq, Nat.reduceLT, e1, e2]
   ·exact .vals (.cons (.one (.p _)) (.cons (.one (.p _)) (.cons (.one (.p _)) .nil)))
end
end Go.Proofs
namespace Go.Ai
theorem store_elA {c : Ctx} {h : List Ob} {ty : TypeId} {n i g k : Nat} {e : TypeId} {xs l l' : List PV} {ex : Bool} (hs : sizeOf? c ty = some n) (hr : hget h i = .row e n xs ex g) (hk : xs[k]? = some (.agg l)) (hl : l.length = n) (hl' : l'.length = n) :
  store? c h ty (.el i g n k 0) (.p (.agg l')) = .wh undefA (hset h i (.row e n (xs.set k (.agg l')) ex g)) := by
 unfold store?
 simp only [hs]
 unfold storeEl
 have e1 : (PV.agg l).cells = l := rfl
 have e2 : (PV.agg l').cells = l' := rfl
 simp only [pure1, e2, hl', Nat.beq_refl, cond, hr, Bool.and_self, pget_eq, hk, e1]
 unfold overK
 rw [Nat.ble_eq_true_of_le (by omega)]
 simp only [cond, lnf_eq, List.take_zero, List.nil_append, Nat.zero_add, hl', ← hl, List.drop_length, List.append_nil]
 unfold reElem
 simp only [lnf_eq, hsetK_eq]
end Go.Ai
namespace Go.Proofs
open Go Go.Ai
structure WK (h : List Ob) (e : TypeId) (cs : List AV) (cvs : List CV) : Prop where
 at0 : hget h 0 = .cells e cs
 co : L2 (Co1 h) cs cvs
theorem l2_set {α β : Type} {R : α → β → Prop} {a : α} {b : β} (hab : R a b) : ∀ {l m} (k : Nat), L2 R l m → L2 R (l.set k a) (m.set k b)
 | _, _, _, .nil => .nil
 | _, _, 0, .cons _ H => .cons hab H
 | _, _, k + 1, .cons h H => .cons h (l2_set hab k H)
theorem WK.lt {h e cs cvs} (W : WK h e cs cvs) : 0 < h.length := hget_cells_lt W.at0
theorem WK.nf {h e cs cvs} (W : WK h e cs cvs) : flat (hget h 0) = false := by rw [W.at0]; rfl
theorem WK.ext {h e cs cvs} (W : WK h e cs cvs) (x : List Ob) : WK (h ++ x) e cs cvs := ⟨(hget_appL x 0 W.lt).trans W.at0, W.co.ext1 x⟩
theorem WK.put {h e cs cvs v c} (W : WK h e cs cvs) (k : Nat) (H : Co1 h v c) : WK (hset h 0 (.cells e (cs.set k v))) e (cs.set k v) (cvs.set k c) :=
 ⟨by rw [hget_hset _ _ _ _ W.lt, if_pos rfl], l2_set (R := Co1 _) (H.hset W.nf) k (W.co.imp fun a b q => q.hset W.nf)⟩
theorem WK.st {h e cs cvs v c ty sz xs} (W : WK h e cs cvs) (k : Nat) (H : Co1 h v c) (hc : IsS sz c xs) (hs : sizeOf? cx ty = some 1) (hk : k < cs.length) : store? cx h ty (.ptr 0 k) v = .ws undefA 0 (.cells e (cs.set k v)) :=
 store_cell (c := cx) (off := k) hs W.at0 (H.one_cell hc) hk
theorem WK.ld {h e cs cvs x ty k} (W : WK h e cs cvs) (ha : aggT? cx ty = some false) (hx : cs[k]? = some x) : load? cx h ty (.ptr 0 k) = some x := load_one ha W.at0 hx
theorem _root_.Go.Ai.Co1.hset_row {h v c i o} (H : Co1 h v c) (hn : i ∉ ids1 v) : Co1 (hset h i o) v c := by
 refine H.keep fun j hj => ?_
 by_cases q : i < h.length
 ·rw [hget_hset _ _ _ _ q, if_neg (by rintro rfl; exact hn hj)]
 ·have : Ai.hset h i o = h := by rw [hset_eq, List.set_eq_of_length_le (by omega)]
  rw [this]
theorem withoutV_is {cv : CV} {l : List Int} {x : Int} (hs : IsS 1 cv (ints l)) : IsS 1 (withoutV cv l x) (ints (if x ∈ l then delL l (lbn l x) else l)) := by
 unfold withoutV
 by_cases q : x ∈ l
 ·rw [if_pos q, if_pos q]; exact .vec _
 ·rw [if_neg q, if_neg q]; exact hs
section
variable {o : Orc} (ho : FreeT o)
include ho
theorem has_cs {h v cv l} {x : Int} (H : Co1 h v cv) (hs : IsS 1 cv (ints l)) (hi : Inc l) (hl : l.length < 100000) : CS cx o (.fn 54 [v, .p (.int .i64 x)]) h (.ret (.p (.bool (decide (x ∈ l))))) h :=
 cs_pure (c := cx) (o := o) (f := 54) (ps := [cv, .pv (.int .i64 x)]) (.cons (.one H) (.cons (.one (.p _)) .nil)) rfl fun h0 as0 H0 => by
  obtain ⟨v0, y, rfl, hv0, hy⟩ := l2_2 H0
  have hy' := hy.pv_int
  subst hy'
  obtain ⟨e, h', hr, a, b⟩ := has54 ho (hv0.one_s hs) hs hi (x := x) (by omega)
  exact ⟨e, h', hr, b, [], by rw [a]; simp⟩
variable (hI : HasIns o)
include hI
theorem without_cs {h v cv l} {x : Int} (H : Co1 h v cv) (hs : IsS 1 cv (ints l)) (hi : Inc l) (hl : l.length < 100000) :
  ∃ v1 ext, CS cx o (.fn 108 [v, .p (.int .i64 x)]) h (.ret v1) (h ++ ext) ∧ Co1 (h ++ ext) v1 (withoutV cv l x) := by
 obtain ⟨e, ext, h1, h2⟩ := cs_val (c := cx) (o := o) (f := 108) (h := h) («as» := [v, .p (.int .i64 x)]) (ps := [cv, .pv (.int .i64 x)]) (qe := .val (withoutV cv l x)) (.cons (.one H) (.cons (.one (.p _)) .nil)) fun h0 as0 H0 => by
  obtain ⟨v0, y, rfl, hv0, hy⟩ := l2_2 H0
  have hy' := hy.pv_int
  subst hy'
  exact without108 ho hI (hv0.one_s hs) hs hi hl
 obtain ⟨v1, rfl, hv1⟩ := h2.val_inv
 exact ⟨v1, ext, h1, hv1.one_s (withoutV_is hs)⟩
theorem rel55_a {h0 cs0 pgs fs gn c1 c2 c3 ver tr} {x : Int} (W : WK h0 101 cs0 [.own 79 10 pgs, c1, c2, c3, .pv (.int .i64 ver), .pv (.int .i64 tr)])
  (h2 : IsS 1 c2 (ints fs)) (h3 : IsS 1 c3 (ints gn)) (i2 : Inc fs) (i3 : Inc gn) (l2 : fs.length < 100000) (l3 : gn.length < 100000) (hx : x ∉ fs) :
  Ct cx o (.fn 55 [.ptr 0 0, .p (.int .i64 x)]) h0 (fun e h1 => FU h0 h1 ∧ (∃ cs1, WK h1 101 cs1 [.own 79 10 pgs, c1, c2, withV c3 gn x, .pv (.int .i64 ver), .pv (.int .i64 tr)]) ∧ CoE h1 e (.vals [])) := by
 refine ct55 (ho _ _ _ (by decide) (by decide)) rfl ?_
 obtain ⟨x0, x1, x2, x3, x4, x5, rfl, q0, q1, q2, q3, q4, q5⟩ := l2_6 W.co
 have d2 : load? cx h0 39 (.ptr 0 2) = some x2 := W.ld a39 rfl
 have d3 : load? cx h0 39 (.ptr 0 3) = some x3 := W.ld a39 rfl
 have p0 := has_cs ho (x := x) q2 h2 i2 l2
 obtain ⟨v1, ext1, p1, k1⟩ := with_cs ho hI (x := x) q3 h3 i3 l3
 have W1 := W.ext ext1
 have st1 := W1.st (ty := 39) 3 k1 (withV_is h3) s39 (by show 3 < 6; decide)
 have W2 := W1.put 3 k1
 simp only [sc55r0, sc55r1, sc55r2, sc55r3, sc55r4, sc55, ↓rwS, rwT, rwG, Nat.reduceEqDiff, Nat.reduceAdd, reduceCtorEq, Nat.reduceLT, fA, fa2, fa3, d2, callW_ret ext54 p0, hx, decide_false, d3, callW_ret ext104 p1, st1]
 exact ⟨(FU.ext h0 ext1).trans (FU.set _ _), ⟨_, W2⟩, .vals .nil⟩
theorem rel55_b {h0 cs0 pgs fr fs c1 c2 c3 ver tr} {x : Nat} (W : WK h0 101 cs0 [.own 79 10 pgs, c1, c2, c3, .pv (.int .i64 ver), .pv (.int .i64 tr)])
  {gn : List Int} (h1 : IsS 1 c1 (ints fr)) (h2 : IsS 1 c2 (ints fs)) (h3 : IsS 1 c3 (ints gn)) (i1 : Inc fr) (i2 : Inc fs) (l1 : fr.length < 100000) (l2 : fs.length < 100000) (hx : (x : Int) ∈ fs) {l : List PV} (hp : pgs[x]? = some (.agg l)) (hl : l.length = 10) :
  Ct cx o (.fn 55 [.ptr 0 0, .p (.int .i64 x)]) h0 (fun e h1 => FU h0 h1 ∧ (∃ cs1, WK h1 101 cs1 [.own 79 10 (pgs.set x zeroPage), withV c1 fr x, withoutV c2 fs x, c3, .pv (.int .i64 ver), .pv (.int .i64 tr)]) ∧ CoE h1 e (.vals [])) := by
 refine ct55 (ho _ _ _ (by decide) (by decide)) rfl ?_
 obtain ⟨x0, x1, x2, x3, x4, x5, rfl, q0, q1, q2, q3, q4, q5⟩ := l2_6 W.co
 have d2 : load? cx h0 39 (.ptr 0 2) = some x2 := W.ld a39 rfl
 have p0 := has_cs ho (x := (x : Int)) q2 h2 i2 l2
 -- Fresh
 obtain ⟨v1, ext1, p1, k1⟩ := without_cs ho hI (x := (x : Int)) q2 h2 i2 l2
 have W1 := W.ext ext1
 have st1 := W1.st (ty := 39) 2 k1 (withoutV_is h2) s39 (by show 2 < 6; decide)
 have W2 : WK (hset (h0 ++ ext1) 0 (.cells 101 [x0, x1, v1, x3, x4, x5])) 101 [x0, x1, v1, x3, x4, x5] [.own 79 10 pgs, c1, withoutV c2 fs x, c3, .pv (.int .i64 ver), .pv (.int .i64 tr)] := W1.put 2 k1
 have st1 : store? cx (h0 ++ ext1) 39 (.ptr 0 2) v1 = .ws undefA 0 (.cells 101 [x0, x1, v1, x3, x4, x5]) := st1
 have u1 := (FU.ext h0 ext1).trans (FU.set (h0 ++ ext1) (.cells 101 [x0, x1, v1, x3, x4, x5]))
 generalize hM2 : hset (h0 ++ ext1) 0 (.cells 101 [x0, x1, v1, x3, x4, x5]) = M2 at *
 have d1 : load? cx M2 39 (.ptr 0 1) = some x1 := W2.ld a39 rfl
 -- Free
 obtain ⟨_, _, _, _, _, _, e0, r0, r1, r2, r3, r4, r5⟩ := l2_6 W2.co
 cases e0
 obtain ⟨v2, ext2, p2, k2⟩ := with_cs ho hI (x := (x : Int)) r1 h1 i1 l1
 have W3 := W2.ext ext2
 have st2 : store? cx (M2 ++ ext2) 39 (.ptr 0 1) v2 = .ws undefA 0 (.cells 101 [x0, v2, v1, x3, x4, x5]) := W3.st (ty := 39) 1 k2 (withV_is h1) s39 (by show 1 < 6; decide)
 have W4 : WK (hset (M2 ++ ext2) 0 (.cells 101 [x0, v2, v1, x3, x4, x5])) 101 [x0, v2, v1, x3, x4, x5] [.own 79 10 pgs, withV c1 fr x, withoutV c2 fs x, c3, .pv (.int .i64 ver), .pv (.int .i64 tr)] := W3.put 1 k2
 have u2 := u1.trans ((FU.ext M2 ext2).trans (FU.set (M2 ++ ext2) (.cells 101 [x0, v2, v1, x3, x4, x5])))
 generalize hM4 : hset (M2 ++ ext2) 0 (.cells 101 [x0, v2, v1, x3, x4, x5]) = M4 at *
 have d0 : load? cx M4 38 (.ptr 0 0) = some x0 := W4.ld a38 rfl
 obtain ⟨_, _, _, _, _, _, e0, r0, r1, r2, r3, r4, r5⟩ := l2_6 W4.co
 cases e0
 have hxl : x < pgs.length := (List.getElem?_eq_some_iff.1 hp).1
 obtain ⟨i, g, ex, hx0, hr⟩ : ∃ i g ex, x0 = .sl i g 10 0 pgs.length ∧ hget M4 i = .row 79 10 pgs ex g := by
  have := own_inv r0
  cases this with
  | nil => simp at hxl
  | row hr => exact ⟨_, _, _, rfl, hr⟩
 have ia : indexAddr? cx 38 x0 (.p (.int .i64 (x : Int))) = some (.el i g 10 x 0) := by
  rw [(r0.sl' (.own _ _)).at (sz := 9) u38 s79 (by omega) (by omega), hx0]
  show some (AV.el i g 10 (0 + x) 0) = _
  rw [Nat.zero_add]
 have st3 := store_elA (c := cx) (l' := [.int .i64 0, .int .i64 0, .int .i64 0, .int .i64 0, .int .i64 0, .bool false, .nils, .int .i64 0, .str [], .nils]) s79 hr hp hl rfl
 have hi0 : 0 ≠ i := fun q => by subst q; rw [W4.at0] at hr; cases hr
 have hil := hget_flat_lt (h := M4) (i := i) (by rw [hr]; rfl)
 have hx0i : ids1 x0 = [i] := by rw [hx0]; rfl
 have W5 : WK (hset M4 i (.row 79 10 (pgs.set x zeroPage) ex g)) 101 [x0, v2, v1, x3, x4, x5] [.own 79 10 (pgs.set x zeroPage), withV c1 fr x, withoutV c2 fs x, c3, .pv (.int .i64 ver), .pv (.int .i64 tr)] := by
  have nn : ∀ {y c l}, Co1 M4 y c → IsS 1 c l → Co1 (hset M4 i (.row 79 10 (pgs.set x zeroPage) ex g)) y c := fun H hs => H.hset_row fun q => disj10 r0 H hs _ q (by rw [hx0i]; exact List.mem_singleton.2 rfl)
  refine ⟨by rw [hget_hset _ _ _ _ hil, if_neg hi0]; exact W4.at0, .cons ?_ (.cons (nn r1 (withV_is h1)) (.cons (nn r2 (withoutV_is h2)) (.cons (nn r3 h3) (.cons ?_ (.cons ?_ .nil)))))⟩
  ·rw [hx0, show pgs.length = (pgs.set x zeroPage).length by simp]
   exact .own (by rw [hget_hset _ _ _ _ hil, if_pos rfl])
  ·cases r4; exact .p _
  ·cases r5; exact .p _
 have u3 : FU M4 (hset M4 i (.row 79 10 (pgs.set x zeroPage) ex g)) := ⟨by rw [hset_length]; exact Nat.le_refl _, fun j h1 h2 h3 => by
  rw [hget_hset _ _ _ _ hil]
  by_cases q : j = i
  ·rw [if_pos q]; rfl
  ·rw [if_neg q]; exact h3⟩
 simp only [sc55r0, sc55r1, sc55r2, sc55r3, sc55r4, sc55, ↓rwS, rwT, rwG, Nat.reduceEqDiff, Nat.reduceAdd, reduceCtorEq, Nat.reduceLT, fA, fa0, fa1, fa2, d2, callW_ret ext54 p0, hx, decide_true, callW_ret ext108 p1, st1, hM2, d1, callW_ret ext104 p2, st2, hM4, d0, b79, ia, zeroPage, st3]
 exact ⟨u2.trans u3, ⟨_, W5⟩, .vals .nil⟩
end
theorem ct16D {o args h P} (ho : o 16 args h = none) (ha : Nat.ble args.length 49 = true) (hw : xC cx o none sc16 (endD cx o [.cell 4 41, .cell 5 25] 47 P) (argT args 0 .lf) h [] none) : Ct cx o (.fn 16 args) h P :=
 ct_def 47 fn16 sc16_ok rfl rfl ho ha sc16_dst hw
def PgOk (ps : List PV) : Prop := ∀ p ∈ ps, ∃ l, p = .agg l ∧ l.length = 10
def Spc.relOk (S : Spc) (x : Int) : Prop := 2 ≤ x ∧ x < (S.pgs.length : Nat) ∧ x ∉ S.fr ∧ x ∉ S.gn
noncomputable def relR (S : Spc) (x : Int) : QE := @ite _ S.Sound (Classical.propDecidable _)
 (@ite _ (S.relOk x) (Classical.propDecidable _)
  (if x ∈ S.fs then .vals [.agg [.own 79 10 (S.pgs.set x.toNat zeroPage), withV S.cl1 S.fr x, withoutV S.cl2 S.fs x, S.cl3, .pv (.int .i64 S.ver), .pv (.int .i64 S.tr)], .pv (.int .i64 0)]
   else .vals [.agg [.own 79 10 S.pgs, S.cl1, S.cl2, withV S.cl3 S.gn x, .pv (.int .i64 S.ver), .pv (.int .i64 S.tr)], .pv (.int .i64 0)])
  (.vals [.pv zeroSpace, .pv (.int .i64 1)]))
 (.vals [.pv zeroSpace, .pv (.int .i64 2)])
theorem relR_f {S : Spc} {x} (h : ¬S.Sound) : relR S x = .vals [.pv zeroSpace, .pv (.int .i64 2)] := @if_neg _ (Classical.propDecidable _) h _ _ _
theorem relR_g {S : Spc} {x} (h : S.Sound) (h2 : ¬S.relOk x) : relR S x = .vals [.pv zeroSpace, .pv (.int .i64 1)] := (@if_pos _ (Classical.propDecidable _) h _ _ _).trans (@if_neg _ (Classical.propDecidable _) h2 _ _ _)
theorem relR_b {S : Spc} {x} (h : S.Sound) (h2 : S.relOk x) (h3 : x ∈ S.fs) : relR S x = .vals [.agg [.own 79 10 (S.pgs.set x.toNat zeroPage), withV S.cl1 S.fr x, withoutV S.cl2 S.fs x, S.cl3, .pv (.int .i64 S.ver), .pv (.int .i64 S.tr)], .pv (.int .i64 0)] :=
 ((@if_pos _ (Classical.propDecidable _) h _ _ _).trans (@if_pos _ (Classical.propDecidable _) h2 _ _ _)).trans (if_pos h3)
theorem relR_a {S : Spc} {x} (h : S.Sound) (h2 : S.relOk x) (h3 : x ∉ S.fs) : relR S x = .vals [.agg [.own 79 10 S.pgs, S.cl1, S.cl2, withV S.cl3 S.gn x, .pv (.int .i64 S.ver), .pv (.int .i64 S.tr)], .pv (.int .i64 0)] :=
 ((@if_pos _ (Classical.propDecidable _) h _ _ _).trans (@if_pos _ (Classical.propDecidable _) h2 _ _ _)).trans (if_neg h3)
section
variable {o : Orc} (ho : FreeT o)
include ho
theorem rel_ok (hI : HasIns o) {S : Spc} (O : SpcOk S) (hs : S.Sound) {x : Int} (hr : S.relOk x) {ps : List PV} {q : List CV} (hql : q.length = 5)
  (rel : ∀ h0 cs0, WK h0 101 cs0 S.cvs → Ct cx o (.fn 55 [.ptr 0 0, .p (.int .i64 x)]) h0 (fun e h1 => FU h0 h1 ∧ (∃ cs1, WK h1 101 cs1 (.own 79 10 ps :: q)) ∧ CoE h1 e (.vals []))) :
  Ct cx o (.fn 16 [.p S.v, .p (.int .i64 x)]) [] (fun e h1 => CoE h1 e (.vals [.agg (.own 79 10 ps :: q), .pv (.int .i64 0)])) := by
 have zc : zeroSpace.cells.map AV.p = [.p .nils, .p .nils, .p .nils, .p .nils, .p (.int .i64 0), .p (.int .i64 0)] := rfl
 have z25c : (PV.int .i64 0).cells.map AV.p = [.p (.int .i64 0)] := rfl
 refine ct16D (ho _ _ _ (by decide) (by decide)) rfl ?_
 obtain ⟨j, cs, ext, p1, hj, hL⟩ := open_cs ho hI O hs [Ob.cells 41 S.cells, .cells 41 [.p .nils, .p .nils, .p .nils, .p .nils, .p (.int .i64 0), .p (.int .i64 0)], .cells 25 [.p (.int .i64 0)]]
 have g1 : hget ([Ob.cells 41 S.cells, .cells 41 [.p .nils, .p .nils, .p .nils, .p .nils, .p (.int .i64 0), .p (.int .i64 0)], .cells 25 [.p (.int .i64 0)]] ++ ext) 1 = .cells 41 [.p .nils, .p .nils, .p .nils, .p .nils, .p (.int .i64 0), .p (.int .i64 0)] := rfl
 have g2 : hget ([Ob.cells 41 S.cells, .cells 41 [.p .nils, .p .nils, .p .nils, .p .nils, .p (.int .i64 0), .p (.int .i64 0)], .cells 25 [.p (.int .i64 0)]] ++ ext) 2 = .cells 25 [.p (.int .i64 0)] := rfl
 have hj1 : j ≠ 1 := by rintro rfl; rw [g1] at hj; cases hj
 have hj2 : j ≠ 2 := by rintro rfl; rw [g2] at hj; cases hj
 generalize hM1 : [Ob.cells 41 S.cells, .cells 41 [.p .nils, .p .nils, .p .nils, .p .nils, .p (.int .i64 0), .p (.int .i64 0)], .cells 25 [.p (.int .i64 0)]] ++ ext = M1 at *
 have i1 : Inc S.fr := (hs.2.1 0 (by decide)).inc
 have i3 : Inc S.gn := (hs.2.1 2 (by decide)).inc
 obtain ⟨e, M2, p2, ⟨cs1, k1, k2⟩, k3, k4, k5⟩ := meth_cs ho (f := 55) (bs := [.p (.int .i64 x)]) (ps := [.pv (.int .i64 x)]) (qcvs := .own 79 10 ps :: q) (qe := .vals []) hj hL (.cons (.one (.p _)) .nil) (fun e qs q => by cases q) (fun h0 cs0 as0 b1 b2 b3 => by
  obtain ⟨y, rfl, hy⟩ := l2_1 b3
  have hy' := hy.pv_int
  subst hy'
  obtain ⟨e, h1, hr, q1, ⟨cs1, W⟩, q3⟩ := rel h0 cs0 ⟨b1, b2⟩
  exact ⟨e, h1, hr, q1, ⟨cs1, W.at0, W.co⟩, q3⟩)
 obtain ⟨x0, x1, x2, x3, x4, x5, rfl, q0, q1, q2, q3, q4, q5⟩ := l2_6 hL
 have hnil : ∃ v, e = .ret v := by cases k3; exact ⟨_, rfl⟩
 obtain ⟨v2, rfl⟩ := hnil
 have y1 := (k5 1 (hget_cells_lt g1) (Ne.symm hj1) (by rw [g1]; rfl)).trans g1
 have y2 := (k5 2 (hget_cells_lt g2) (Ne.symm hj2) (by rw [g2]; rfl)).trans g2
 have hlen : cs1.length = 6 := by rw [k2.length, List.length_cons, hql]
 have lw : load? cx M2 41 (.ptr j 0) = some (.agg cs1) := by
  rw [load_whole a41 s41 k1 hlen]
  cases k2 with
  | cons a b => rw [mkAgg_own a]
 have st1 := store_whole (c := cx) s41 y1 (show (AV.agg cs1).cells? = some cs1 from rfl) hlen rfl
 have l1 := hget_cells_lt y1
 have l2 := hget_cells_lt y2
 have y3 : hget (hset M2 1 (.cells 41 cs1)) 2 = .cells 25 [.p (.int .i64 0)] := by rw [hget_hset _ _ _ _ l1, if_neg (by decide)]; exact y2
 have st2 := store_one (c := cx) (v := .int .i64 0) s25 y3 rfl (show 0 < 1 by decide)
 have nf1 : flat (hget M2 1) = false := by rw [y1]; rfl
 have nf2 : flat (hget (hset M2 1 (.cells 41 cs1)) 2) = false := by rw [y3]; rfl
 have l3 := hget_cells_lt y3
 have y4 : hget (hset (hset M2 1 (.cells 41 cs1)) 2 (.cells 25 [.p (.int .i64 0)])) 2 = .cells 25 [.p (.int .i64 0)] := by rw [hget_hset _ _ _ _ l3, if_pos rfl]
 have y5 : hget (hset (hset M2 1 (.cells 41 cs1)) 2 (.cells 25 [.p (.int .i64 0)])) 1 = .cells 41 cs1 := by rw [hget_hset _ _ _ _ l3, if_neg (by decide), hget_hset _ _ _ _ l1, if_pos rfl]
 have d0 : load? cx M1 38 (.ptr j 0) = some x0 := load_one a38 hj rfl
 have d1 : load? cx M1 39 (.ptr j 1) = some x1 := load_one a39 hj rfl
 have d3 : load? cx M1 39 (.ptr j 3) = some x3 := load_one a39 hj rfl
 have e0 := (q0.sl' (.own _ _)).len u38
 have h1' := has_cs ho (x := x) q1 (clV_is O.h1.is) i1 O.l1
 have h3' := has_cs ho (x := x) q3 (clV_is O.h3.is) i3 O.l3
 obtain ⟨r1, r2, r3, r4⟩ := hr
 simp only [sc16, sc16r0, sc16r1, sc16r2, sc16r3, sc16r4, sc16r5, ↓rwS, rwT, rwG, Nat.reduceEqDiff, Nat.reduceAdd, reduceCtorEq, Nat.reduceLT, hbox, z41, z25, zc, z25c, List.cons_append, List.nil_append, List.length_cons, List.length_nil, ldS, callW_ret ext48 p1, hM1, fA, fa0, fa1, fa3, d0, d1, d3, e0, callW_ret ext54 h1', callW_ret ext54 h3', r1, r2, r3, r4, decide_true, decide_false, call53_t ho, callW_ret ext55 p2, lw, st1, st2, List.set_cons_zero]
 refine endD_ret _ [.agg cs1, .p (.int .i64 0)] (def47_ret y4) ?_ ?_ rfl
 ·rw [hset_hset]
  have e1 : load? cx (hset (hset M2 1 (.cells 41 cs1)) 2 (.cells 25 [.p (.int .i64 0)])) 41 (.ptr 1 0) = some (.agg cs1) := by
   rw [load_whole a41 s41 y5 hlen]
   cases k2 with
   | cons a b => rw [mkAgg_own a]
  have e2 : load? cx (hset (hset M2 1 (.cells 41 cs1)) 2 (.cells 25 [.p (.int .i64 0)])) 25 (.ptr 2 0) = some (.p (.int .i64 0)) := load_one a25 y4 rfl
  simp only [↓rwA, rwB, rwG, Nat.reduceEqDiff, Nat.reduceAdd, reduceCtorEq, Nat.reduceLT, e1, e2]
 ·rw [hset_hset]
  exact .vals (.cons (.agg (k2.imp fun a b hab => (hab.hset nf1).hset nf2)) (.cons (.one (.p _)) .nil))
theorem rel16 (hI : HasIns o) {S : Spc} (O : SpcOk S) (hpg : PgOk S.pgs) (x : Int) : Ct cx o (.fn 16 [.p S.v, .p (.int .i64 x)]) [] (fun e h1 => CoE h1 e (relR S x)) := by
 have zc : zeroSpace.cells.map AV.p = [.p .nils, .p .nils, .p .nils, .p .nils, .p (.int .i64 0), .p (.int .i64 0)] := rfl
 have z25c : (PV.int .i64 0).cells.map AV.p = [.p (.int .i64 0)] := rfl
 have zl : ∀ (a c : Ob), load? cx [a, .cells 41 [.p .nils, .p .nils, .p .nils, .p .nils, .p (.int .i64 0), .p (.int .i64 0)], c] 41 (.ptr 1 0) = some (.p zeroSpace) := fun a c => (load_whole a41 s41 rfl rfl).trans rfl
 by_cases hs : S.Sound
 case neg =>
  refine ct16D (ho _ _ _ (by decide) (by decide)) rfl ?_
  simp only [sc16, sc16r0, sc16r1, sc16r2, ↓rwS, rwT, rwG, Nat.reduceEqDiff, Nat.reduceAdd, reduceCtorEq, Nat.reduceLT, hbox, z41, z25, zc, z25c, List.cons_append, List.nil_append, List.length_cons, List.length_nil, ldS, open_pan ho O hs]
  refine endD_pan _ [.p zeroSpace, .p (.int .i64 2)] (def47_pan (n := 0) rfl) ?_ ?_ rfl
  ·have e1 : hset [Ob.cells 41 S.cells, .cells 41 [.p .nils, .p .nils, .p .nils, .p .nils, .p (.int .i64 0), .p (.int .i64 0)], .cells 25 [.p (.int .i64 0)]] 2 (.cells 25 [.p (.int .i64 2)]) = [Ob.cells 41 S.cells, .cells 41 [.p .nils, .p .nils, .p .nils, .p .nils, .p (.int .i64 0), .p (.int .i64 0)], .cells 25 [.p (.int .i64 2)]] := rfl
   rw [e1]
   have e2 : load? cx [Ob.cells 41 S.cells, .cells 41 [.p .nils, .p .nils, .p .nils, .p .nils, .p (.int .i64 0), .p (.int .i64 0)], .cells 25 [.p (.int .i64 2)]] 25 (.ptr 2 0) = some (.p (.int .i64 2)) := load_one a25 rfl rfl
   simp only [↓rwA, rwB, rwG, Nat.reduceEqDiff, Nat.reduceAdd, reduceCtorEq, Nat.reduceLT, zl, e2]
  ·rw [relR_f hs]
   exact .vals (.cons (.one (.p _)) (.cons (.one (.p _)) .nil))
 have i1 : Inc S.fr := (hs.2.1 0 (by decide)).inc
 have i2 : Inc S.fs := (hs.2.1 1 (by decide)).inc
 have i3 : Inc S.gn := (hs.2.1 2 (by decide)).inc
 have c2 : IsS 1 S.cl2 (ints S.fs) := clV_is O.h2.is
 have c1 : IsS 1 S.cl1 (ints S.fr) := clV_is O.h1.is
 have c3 : IsS 1 S.cl3 (ints S.gn) := clV_is O.h3.is
 have l1 := O.l1
 have l2 := O.l2
 have l3 := O.l3
 by_cases hr : S.relOk x
 ·by_cases hx : x ∈ S.fs
  ·rw [relR_b hs hr hx]
   refine rel_ok ho hI O hs hr (ps := S.pgs.set x.toNat zeroPage) (q := [withV S.cl1 S.fr x, withoutV S.cl2 S.fs x, S.cl3, .pv (.int .i64 S.ver), .pv (.int .i64 S.tr)]) rfl fun h0 cs0 W => ?_
   obtain ⟨r1, r2, r3, r4⟩ := hr
   have hxe : ((x.toNat : Nat) : Int) = x := by omega
   have hpe : S.pgs[x.toNat]? = some (S.pgs[x.toNat]'(by omega)) := List.getElem?_eq_getElem (by omega)
   obtain ⟨l, hl, hll⟩ := hpg _ (List.mem_of_getElem? hpe)
   rw [hl] at hpe
   have W : WK h0 101 cs0 [.own 79 10 S.pgs, S.cl1, S.cl2, S.cl3, .pv (.int .i64 S.ver), .pv (.int .i64 S.tr)] := W
   have := rel55_b ho hI (x := x.toNat) W c1 c2 c3 i1 i2 l1 l2 (by rw [hxe]; exact hx) hpe hll
   rw [hxe] at this
   exact this
  ·rw [relR_a hs hr hx]
   refine rel_ok ho hI O hs hr (ps := S.pgs) (q := [S.cl1, S.cl2, withV S.cl3 S.gn x, .pv (.int .i64 S.ver), .pv (.int .i64 S.tr)]) rfl fun h0 cs0 W => ?_
   have W : WK h0 101 cs0 [.own 79 10 S.pgs, S.cl1, S.cl2, S.cl3, .pv (.int .i64 S.ver), .pv (.int .i64 S.tr)] := W
   exact rel55_a ho hI W c2 c3 i2 i3 l2 l3 hx
 ·refine ct16D (ho _ _ _ (by decide) (by decide)) rfl ?_
  obtain ⟨j, cs, ext, p1, hj, hL⟩ := open_cs ho hI O hs [Ob.cells 41 S.cells, .cells 41 [.p .nils, .p .nils, .p .nils, .p .nils, .p (.int .i64 0), .p (.int .i64 0)], .cells 25 [.p (.int .i64 0)]]
  have y1 : hget ([Ob.cells 41 S.cells, .cells 41 [.p .nils, .p .nils, .p .nils, .p .nils, .p (.int .i64 0), .p (.int .i64 0)], .cells 25 [.p (.int .i64 0)]] ++ ext) 1 = .cells 41 [.p .nils, .p .nils, .p .nils, .p .nils, .p (.int .i64 0), .p (.int .i64 0)] := rfl
  have y2 : hget ([Ob.cells 41 S.cells, .cells 41 [.p .nils, .p .nils, .p .nils, .p .nils, .p (.int .i64 0), .p (.int .i64 0)], .cells 25 [.p (.int .i64 0)]] ++ ext) 2 = .cells 25 [.p (.int .i64 0)] := rfl
  generalize hM1 : [Ob.cells 41 S.cells, .cells 41 [.p .nils, .p .nils, .p .nils, .p .nils, .p (.int .i64 0), .p (.int .i64 0)], .cells 25 [.p (.int .i64 0)]] ++ ext = M1 at *
  obtain ⟨x0, x1, x2, x3, x4, x5, rfl, q0, q1, q2, q3, q4, q5⟩ := l2_6 hL
  have d0 : load? cx M1 38 (.ptr j 0) = some x0 := load_one a38 hj rfl
  have d1 : load? cx M1 39 (.ptr j 1) = some x1 := load_one a39 hj rfl
  have d3 : load? cx M1 39 (.ptr j 3) = some x3 := load_one a39 hj rfl
  have e0 := (q0.sl' (.own _ _)).len u38
  have h1' := has_cs ho (x := x) q1 (clV_is O.h1.is) i1 O.l1
  have h3' := has_cs ho (x := x) q3 (clV_is O.h3.is) i3 O.l3
  have l3 := hget_cells_lt y2
  have y4 : hget (hset M1 2 (.cells 25 [.p (.int .i64 1)])) 2 = .cells 25 [.p (.int .i64 1)] := by rw [hget_hset _ _ _ _ l3, if_pos rfl]
  have y5 : hget (hset M1 2 (.cells 25 [.p (.int .i64 1)])) 1 = .cells 41 [.p .nils, .p .nils, .p .nils, .p .nils, .p (.int .i64 0), .p (.int .i64 0)] := by rw [hget_hset _ _ _ _ l3, if_neg (by decide)]; exact y1
  have fin : endD cx o [.cell 4 41, .cell 5 25] 47 (fun e h1 => CoE h1 e (relR S x)) (.pan (.p (failV 1))) = endD cx o [.cell 4 41, .cell 5 25] 47 (fun e h1 => CoE h1 e (relR S x)) (.pan (.p (failV 1))) := rfl
  have key : ∀ t : Tm, t.get 4 = .ptr 1 0 → t.get 5 = .ptr 2 0 → endD cx o [.cell 4 41, .cell 5 25] 47 (fun e h1 => CoE h1 e (relR S x)) (.pan (.p (failV 1))) t M1 [.fn 47 [.ptr 2 0]] none := fun t t4 t5 => by
   refine endD_pan _ [.p zeroSpace, .p (.int .i64 1)] (def47_pan y2) ?_ ?_ rfl
   ·have e1 : load? cx (hset M1 2 (.cells 25 [.p (.int .i64 1)])) 41 (.ptr 1 0) = some (.p zeroSpace) := (load_whole a41 s41 y5 rfl).trans rfl
    have e2 : load? cx (hset M1 2 (.cells 25 [.p (.int .i64 1)])) 25 (.ptr 2 0) = some (.p (.int .i64 1)) := load_one a25 y4 rfl
    simp only [↓rwA, rwB, rwG, Nat.reduceEqDiff, Nat.reduceAdd, reduceCtorEq, Nat.reduceLT, t4, t5, e1, e2]
   ·rw [relR_g hs hr]
    exact .vals (.cons (.one (.p _)) (.cons (.one (.p _)) .nil))
  by_cases r1 : (2 : Int) ≤ x
  case neg =>
   simp only [sc16, sc16r0, sc16r1, sc16r2, sc16r3, ↓rwS, rwT, rwG, Nat.reduceEqDiff, Nat.reduceAdd, reduceCtorEq, Nat.reduceLT, hbox, z41, z25, zc, z25c, List.cons_append, List.nil_append, List.length_cons, List.length_nil, ldS, callW_ret ext48 p1, hM1, r1, decide_false, call53_f ho]
   exact key _ (by simp only [↓rwA, rwB, rwG, Nat.reduceEqDiff, Nat.reduceAdd, reduceCtorEq, Nat.reduceLT]) (by simp only [↓rwA, rwB, rwG, Nat.reduceEqDiff, Nat.reduceAdd, reduceCtorEq, Nat.reduceLT])
  by_cases r2 : x < (S.pgs.length : Nat)
  case neg =>
   simp only [sc16, sc16r0, sc16r1, sc16r2, sc16r3, ↓rwS, rwT, rwG, Nat.reduceEqDiff, Nat.reduceAdd, reduceCtorEq, Nat.reduceLT, hbox, z41, z25, zc, z25c, List.cons_append, List.nil_append, List.length_cons, List.length_nil, ldS, callW_ret ext48 p1, hM1, fA, fa0, d0, e0, r1, r2, decide_true, decide_false, call53_f ho]
   exact key _ (by simp only [↓rwA, rwB, rwG, Nat.reduceEqDiff, Nat.reduceAdd, reduceCtorEq, Nat.reduceLT]) (by simp only [↓rwA, rwB, rwG, Nat.reduceEqDiff, Nat.reduceAdd, reduceCtorEq, Nat.reduceLT])
  by_cases r3 : x ∉ S.fr
  case neg =>
   have r3 := Decidable.not_not.1 r3
   simp only [sc16, sc16r0, sc16r1, sc16r2, sc16r3, ↓rwS, rwT, rwG, Nat.reduceEqDiff, Nat.reduceAdd, reduceCtorEq, Nat.reduceLT, hbox, z41, z25, zc, z25c, List.cons_append, List.nil_append, List.length_cons, List.length_nil, ldS, callW_ret ext48 p1, hM1, fA, fa0, fa1, d0, d1, e0, callW_ret ext54 h1', r1, r2, r3, decide_true, decide_false, call53_f ho]
   exact key _ (by simp only [↓rwA, rwB, rwG, Nat.reduceEqDiff, Nat.reduceAdd, reduceCtorEq, Nat.reduceLT]) (by simp only [↓rwA, rwB, rwG, Nat.reduceEqDiff, Nat.reduceAdd, reduceCtorEq, Nat.reduceLT])
  by_cases r4 : x ∉ S.gn
  case pos => exact absurd ⟨r1, r2, r3, r4⟩ hr
  have r4 := Decidable.not_not.1 r4
  simp only [sc16, sc16r0, sc16r1, sc16r2, sc16r3, ↓rwS, rwT, rwG, Nat.reduceEqDiff, Nat.reduceAdd, reduceCtorEq, Nat.reduceLT, hbox, z41, z25, zc, z25c, List.cons_append, List.nil_append, List.length_cons, List.length_nil, ldS, callW_ret ext48 p1, hM1, fA, fa0, fa1, fa3, d0, d1, d3, e0, callW_ret ext54 h1', callW_ret ext54 h3', r1, r2, r3, r4, decide_true, decide_false, call53_f ho]
  exact key _ (by simp only [↓rwA, rwB, rwG, Nat.reduceEqDiff, Nat.reduceAdd, reduceCtorEq, Nat.reduceLT]) (by simp only [↓rwA, rwB, rwG, Nat.reduceEqDiff, Nat.reduceAdd, reduceCtorEq, Nat.reduceLT])
end
end Go.Proofs

/- What is proved: contracts of the specification's Alloc, Release and Sound. Conditions: as before. -/
import Derived.Test.YtjajjhfbdfdfnaaGreatSC07
import Derived.Test.YtjajjhfbdfdfnaaGreatSC01
set_option linter.all false
set_option maxRecDepth 100000
namespace Go.Proofs
open Go Go.Ai
theorem l2_7 {h : List Ob} {cs : List AV} {a b c d e f g : CV} (H : L2 (Co1 h) cs [a, b, c, d, e, f, g]) : ∃ x0 x1 x2 x3 x4 x5 x6, cs = [x0, x1, x2, x3, x4, x5, x6] ∧ Co1 h x0 a ∧ Co1 h x1 b ∧ Co1 h x2 c ∧ Co1 h x3 d ∧ Co1 h x4 e ∧ Co1 h x5 f ∧ Co1 h x6 g := by
 cases H with
 | cons h0 H => obtain ⟨x1, x2, x3, x4, x5, x6, rfl, h1, h2, h3, h4, h5, h6⟩ := l2_6 H; exact ⟨_, _, _, _, _, _, _, rfl, h0, h1, h2, h3, h4, h5, h6⟩
theorem co1_int {h v k n} (H : Co1 h v (.pv (.int k n))) : v = .p (.int k n) := by cases H; rfl
theorem b136 (a b c d e f : PV) : build? cx 136 [(0, .p (.agg [a, b, c, d, e, f]))] = some (.p (.agg [a, b, c, d, e, f, .int .i64 0])) := by kernel_rfl
def wkC (c0 c1 c2 c3 : CV) (ver tr E : Int) : List CV := [c0, c1, c2, c3, .pv (.int .i64 ver), .pv (.int .i64 tr), .pv (.int .i64 E)]
section
variable {o : Orc} (ho : FreeT o)
include ho
theorem methK {f : FuncId} {h j e0 cs cvs qcvs bs ps qe} (hj : hget h j = .cells e0 cs) (H : L2 (Co1 h) cs cvs) (Ha : L2 (Co h) bs ps) (hq : ∀ e qs, qe ≠ .ptr e qs)
  (hc : ∀ h0 cs0 as0, WK h0 e0 cs0 cvs → L2 (Co h0) as0 ps → Ct cx o (.fn f (.ptr 0 0 :: as0)) h0 fun e h1 => FU h0 h1 ∧ (∃ cs1, WK h1 e0 cs1 qcvs) ∧ CoE h1 e qe) :
  ∃ e h1, CS cx o (.fn f (.ptr j 0 :: bs)) h e h1 ∧ (∃ cs1, hget h1 j = .cells e0 cs1 ∧ L2 (Co1 h1) cs1 qcvs) ∧ CoE h1 e qe ∧ h.length ≤ h1.length ∧
   (∀ k, k < h.length → k ≠ j → flat (hget h k) = false → hget h1 k = hget h k) ∧ (∀ k, k < h.length → k ≠ j → flat (hget h k) = true → flat (hget h1 k) = true) := by
 obtain ⟨e, h1, p1, p2, p3, p4, p5, p6⟩ := cs_ptr (c := cx) (o := o) (f := f) hj H Ha hq fun h0 cs0 as0 b1 b2 b3 b4 => by
  obtain ⟨e, h1, hr, q1, ⟨cs1, W⟩, q3⟩ := hc h0 cs0 as0 ⟨b1, b3⟩ b4
  exact ⟨e, h1, hr, q1.1, fun j a b => q1.2 j a b (b2 j a b), ⟨cs1, W.at0, W.co⟩, q3⟩
 refine ⟨e, h1, p1, p3, p4, p2, fun k hk hkj hf => p5 k hk hkj (fun q => ?_) (fun q => ?_), p6⟩
 ·have := H.flat1 k q; rw [hf] at this; cases this
 ·have := Ha.flat k q; rw [hf] at this; cases this
theorem methW {f : FuncId} {h e0 cs cvs qcvs bs ps qe} (W : WK h e0 cs cvs) (Ha : L2 (Co h) bs ps) (hq : ∀ e qs, qe ≠ .ptr e qs)
  (hc : ∀ h0 cs0 as0, WK h0 e0 cs0 cvs → L2 (Co h0) as0 ps → Ct cx o (.fn f (.ptr 0 0 :: as0)) h0 fun e h1 => FU h0 h1 ∧ (∃ cs1, WK h1 e0 cs1 qcvs) ∧ CoE h1 e qe) :
  ∃ e h1, CS cx o (.fn f (.ptr 0 0 :: bs)) h e h1 ∧ FU h h1 ∧ (∃ cs1, WK h1 e0 cs1 qcvs) ∧ CoE h1 e qe := by
 obtain ⟨e, h1, p1, ⟨cs1, p2, p3⟩, p4, p5, p6, p7⟩ := methK ho W.at0 W.co Ha hq hc
 exact ⟨e, h1, p1, ⟨p5, fun k h1 h2 h3 => p7 k h2 (by omega) h3⟩, ⟨cs1, p2, p3⟩, p4⟩
theorem fail109 {h0 cs0 c0 c1 c2 c3 ver tr E e} (W : WK h0 136 cs0 (wkC c0 c1 c2 c3 ver tr E)) :
  Ct cx o (.fn 109 [.ptr 0 0, .p (.int .i64 e)]) h0 (fun en h1 => FU h0 h1 ∧ (∃ cs1, WK h1 136 cs1 (wkC c0 c1 c2 c3 ver tr (if E = 0 then e else E))) ∧ CoE h1 en (.vals [])) := by
 refine ct109 (ho _ _ _ (by decide) (by decide)) rfl ?_
 have W0 := W
 obtain ⟨x0, x1, x2, x3, x4, x5, x6, rfl, q0, q1, q2, q3, q4, q5, q6⟩ := l2_7 W.co
 have q6' := co1_int q6
 subst q6'
 have d6 : load? cx h0 25 (.ptr 0 6) = some (.p (.int .i64 E)) := W.ld a25 rfl
 by_cases hE : E = 0
 ·subst hE
  have st := store_one (c := cx) (v := .int .i64 e) s25 W.at0 rfl (show 6 < 7 by decide)
  have W1 := W.put 6 (Co1.p (.int .i64 e))
  simp only [sc109r0, sc109r1, sc109, ↓rwS, rwT, rwG, Nat.reduceEqDiff, Nat.reduceAdd, reduceCtorEq, Nat.reduceLT, fb1, d6, decide_true, st]
  exact ⟨FU.set _ _, ⟨_, W1⟩, .vals .nil⟩
 ·simp only [sc109r0, sc109r1, sc109, ↓rwS, rwT, rwG, Nat.reduceEqDiff, Nat.reduceAdd, reduceCtorEq, Nat.reduceLT, fb1, d6, hE, decide_false]
  exact ⟨FU.refl _, ⟨_, W0⟩, .vals .nil⟩
def needE (b : Bool) (E e : Int) : Int := if b = true then E else if E = 0 then e else E
theorem need56 {h0 cs0 c0 c1 c2 c3 ver tr E} {b : Bool} {e : Int} (W : WK h0 136 cs0 (wkC c0 c1 c2 c3 ver tr E)) :
  Ct cx o (.fn 56 [.ptr 0 0, .p (.bool b), .p (.int .i64 e)]) h0 (fun en h1 => FU h0 h1 ∧ (∃ cs1, WK h1 136 cs1 (wkC c0 c1 c2 c3 ver tr (needE b E e))) ∧ CoE h1 en (.val (.pv (.bool (decide (needE b E e = 0)))))) := by
 refine ct56 (ho _ _ _ (by decide) (by decide)) rfl ?_
 cases b with
 | true =>
  obtain ⟨x0, x1, x2, x3, x4, x5, x6, rfl, q0, q1, q2, q3, q4, q5, q6⟩ := l2_7 W.co
  have q6' := co1_int q6
  subst q6'
  have d6 : load? cx h0 25 (.ptr 0 6) = some (.p (.int .i64 E)) := W.ld a25 rfl
  have hn : needE true E e = E := if_pos rfl
  simp only [sc56r0, sc56r1, sc56r2, sc56r3, sc56, ↓rwS, rwT, rwG, Nat.reduceEqDiff, Nat.reduceAdd, reduceCtorEq, Nat.reduceLT, fb1, d6, hn]
  exact ⟨FU.refl _, ⟨_, W⟩, .val (.one (.p _))⟩
 | false =>
  obtain ⟨en, h1, p1, u1, ⟨cs1, W1⟩, p4⟩ := methW ho (f := 109) (bs := [.p (.int .i64 e)]) (ps := [.pv (.int .i64 e)]) (qcvs := wkC c0 c1 c2 c3 ver tr (if E = 0 then e else E)) (qe := .vals []) W (.cons (.one (.p _)) .nil) (fun e qs q => by cases q) (fun h0 cs0 as0 W b3 => by
   obtain ⟨y, rfl, hy⟩ := l2_1 b3
   have hy' := hy.pv_int
   subst hy'
   exact fail109 ho W)
  have hv : ∃ v, en = .ret v := by cases p4; exact ⟨_, rfl⟩
  obtain ⟨v, rfl⟩ := hv
  obtain ⟨x0, x1, x2, x3, x4, x5, x6, rfl, q0, q1, q2, q3, q4, q5, q6⟩ := l2_7 W1.co
  have q6' := co1_int q6
  subst q6'
  have d6 : load? cx h1 25 (.ptr 0 6) = some (.p (.int .i64 (if E = 0 then e else E))) := W1.ld a25 rfl
  have hn : needE false E e = if E = 0 then e else E := if_neg (by decide)
  simp only [sc56r0, sc56r1, sc56r2, sc56r3, sc56, ↓rwS, rwT, rwG, Nat.reduceEqDiff, Nat.reduceAdd, reduceCtorEq, Nat.reduceLT, callW_ret ext109 p1, fb1, d6, hn]
  exact ⟨u1, ⟨_, W1⟩, .val (.one (.p _))⟩
theorem call59 {S : Spc} (O : SpcOk S) {h dst t d r K Q} : callW cx o dst t h d r (some (.fn 59 [.p S.v])) K Q = K (put dst (.p (.bool S.soundB)) t) h d r :=
 callW_ret ext59 (cs_p (f := 59) (ps := [S.v]) rfl (sound59 ho O))
theorem need_cs {h j cs c0 c1 c2 c3 ver tr E} {b : Bool} {e : Int} (hj : hget h j = .cells 136 cs) (H : L2 (Co1 h) cs (wkC c0 c1 c2 c3 ver tr E)) :
  ∃ h1, CS cx o (.fn 56 [.ptr j 0, .p (.bool b), .p (.int .i64 e)]) h (.ret (.p (.bool (decide (needE b E e = 0))))) h1 ∧ (∃ cs1, hget h1 j = .cells 136 cs1 ∧ L2 (Co1 h1) cs1 (wkC c0 c1 c2 c3 ver tr (needE b E e))) ∧ h.length ≤ h1.length ∧
   (∀ k, k < h.length → k ≠ j → flat (hget h k) = false → hget h1 k = hget h k) ∧ (∀ k, k < h.length → k ≠ j → flat (hget h k) = true → flat (hget h1 k) = true) := by
 obtain ⟨en, h1, p1, p2, p3, p4, p5, p6⟩ := methK ho (f := 56) (bs := [.p (.bool b), .p (.int .i64 e)]) (ps := [.pv (.bool b), .pv (.int .i64 e)]) (qcvs := wkC c0 c1 c2 c3 ver tr (needE b E e)) (qe := .val (.pv (.bool (decide (needE b E e = 0))))) hj H (.cons (.one (.p _)) (.cons (.one (.p _)) .nil)) (fun e qs q => by cases q) (fun h0 cs0 as0 W b3 => by
  obtain ⟨y, z, rfl, hy, hz⟩ := l2_2 b3
  have hz' := hz.pv_int
  subst hz'
  have hy' : y = .p (.bool b) := by cases hy with | one h1 => cases h1; rfl
  subst hy'
  exact need56 ho W)
 obtain ⟨v, rfl, hv⟩ := p3.val_inv
 have hv' : v = .p (.bool (decide (needE b E e = 0))) := by cases hv with | one h1 => cases h1; rfl
 subst hv'
 exact ⟨h1, p1, p2, p4, p5, p6⟩
theorem open50_f {S : Spc} (O : SpcOk S) (hs : ¬S.Sound) : Ct cx o (.fn 50 [.p S.v]) [] (fun e h1 => CoE h1 e (.ptr 136 (wkC (.pv S.p0) (.pv S.p1) (.pv S.p2) (.pv S.p3) S.ver S.tr 2))) := by
 refine ct50 (ho _ _ _ (by decide) (by decide)) rfl ?_
 have hbox2 : ∀ hh : List Ob, boxW hh 136 (.p (.agg [S.p0, S.p1, S.p2, S.p3, .int .i64 S.ver, .int .i64 S.tr, .int .i64 0])) = .wn (.ptr hh.length 0) (.cells 136 (S.cells ++ [.p (.int .i64 0)])) := fun hh => rfl
 have bS : build? cx 136 [(0, .p S.v)] = _ := b136 _ _ _ _ _ _
 obtain ⟨h1, p1, ⟨cs1, p2, p3⟩, p4, p5, p6⟩ := need_cs ho (h := [.cells 41 S.cells, .cells 136 (S.cells ++ [.p (.int .i64 0)])]) (j := 1) (c0 := .pv S.p0) (c1 := .pv S.p1) (c2 := .pv S.p2) (c3 := .pv S.p3) (ver := S.ver) (tr := S.tr) (E := 0) (b := false) (e := 2) rfl (.cons (.p _) (.cons (.p _) (.cons (.p _) (.cons (.p _) (.cons (.p _) (.cons (.p _) (.cons (.p _) .nil)))))))
 have hn : needE false 0 2 = 2 := rfl
 rw [hn] at p1 p3
 have h2 : ¬((2 : Int) = 0) := by decide
 simp only [h2, decide_false] at p1
 simp only [sc50, sc50r0, sc50r1, sc50r2, sc50r4, ↓rwS, rwT, rwG, Nat.reduceEqDiff, Nat.reduceAdd, reduceCtorEq, Nat.reduceLT, hbox, List.cons_append, List.nil_append, List.length_cons, List.length_nil, ldS, bS, hbox2, call59 ho O, Spc.soundB_f hs, callW_ret ext56 p1]
 exact .ptr p2 p3
theorem open50_t {S : Spc} (O : SpcOk S) (hs : S.Sound) : Ct cx o (.fn 50 [.p S.v]) [] (fun e h1 => CoE h1 e (.ptr 136 (wkC (.own 79 10 S.pgs) (.pv S.p1) (.pv S.p2) (.pv S.p3) S.ver S.tr 0))) := by
 refine ct50 (ho _ _ _ (by decide) (by decide)) rfl ?_
 have hbox2 : ∀ hh : List Ob, boxW hh 136 (.p (.agg [S.p0, S.p1, S.p2, S.p3, .int .i64 S.ver, .int .i64 S.tr, .int .i64 0])) = .wn (.ptr hh.length 0) (.cells 136 (S.cells ++ [.p (.int .i64 0)])) := fun hh => rfl
 have bS : build? cx 136 [(0, .p S.v)] = _ := b136 _ _ _ _ _ _
 obtain ⟨h1, p1, ⟨cs1, p2, p3⟩, p4, p5, p6⟩ := need_cs ho (h := [.cells 41 S.cells, .cells 136 (S.cells ++ [.p (.int .i64 0)])]) (j := 1) (c0 := .pv S.p0) (c1 := .pv S.p1) (c2 := .pv S.p2) (c3 := .pv S.p3) (ver := S.ver) (tr := S.tr) (E := 0) (b := true) (e := 2) rfl (.cons (.p _) (.cons (.p _) (.cons (.p _) (.cons (.p _) (.cons (.p _) (.cons (.p _) (.cons (.p _) .nil)))))))
 have hn : needE true 0 2 = 0 := rfl
 rw [hn] at p1 p3
 simp only [decide_true] at p1
 have y0 : hget h1 0 = .cells 41 S.cells := p5 0 (by simp) (by decide) rfl
 have hb0 : ∀ hh : List Ob, buildSlice? cx hh 38 0 [] = _ := fun hh => build0 u38 s79 a79 z79
 have z1 := (hget_appL [.row 79 10 [] true 0] 0 (hget_cells_lt y0)).trans y0
 have d0 : load? cx (h1 ++ [.row 79 10 [] true 0]) 38 (.ptr 0 0) = some (.p S.p0) := load_one a38 z1 rfl
 have l0 := O.l0
 obtain ⟨v1, M1, a1, a2, a3', a4, a5, a6⟩ := app_any (c := cx) (o := o) (rd := none) (h := h1 ++ [.row 79 10 [] true 0]) (i := h1.length) (g := 0) (e := 79) (xs := []) (x := .p S.p0) (hget_new _ _) s79 (by decide) (O.h0.sl _).elems (O.h0.sl []).szIsB (room_le room79 (by simp; omega))
 rw [List.nil_append] at a1
 have k1 : Co1 M1 v1 (.own 79 10 S.pgs) := a1.co1 (by obtain ⟨j, g, q, _⟩ := a2; rw [q]; intro q; cases q)
 have p2' := hget_cells_lt p2
 have y1 : hget M1 1 = .cells 136 cs1 := by rw [a4 1 (by simp; omega) (by omega), hget_appL _ _ p2']; exact p2
 have keep : ∀ {x c}, Co1 h1 x c → Co1 M1 x c := fun {x c} hx => (hx.ext [.row 79 10 [] true 0]).keep fun j hj => by
  have := ids1_lt hx j hj
  exact a4 j (by simp; omega) (by omega)
 obtain ⟨x0, x1, x2, x3, x4, x5, x6, rfl, q0, q1, q2, q3, q4, q5, q6⟩ := l2_7 p3
 have st := store_cell (c := cx) (off := 0) s38 y1 (k1.one_cell (.own _ _)) (show 0 < 7 by decide)
 have nf : flat (hget M1 1) = false := by rw [y1]; rfl
 have hl := hget_cells_lt y1
 have fin : CoE (hset M1 1 (.cells 136 [v1, x1, x2, x3, x4, x5, x6])) (.ret (.ptr 1 0)) (.ptr 136 (wkC (.own 79 10 S.pgs) (.pv S.p1) (.pv S.p2) (.pv S.p3) S.ver S.tr 0)) :=
  .ptr (by rw [hget_hset _ _ _ _ hl, if_pos rfl]) (.cons (k1.hset nf) (.cons ((keep q1).hset nf) (.cons ((keep q2).hset nf) (.cons ((keep q3).hset nf) (.cons ((keep q4).hset nf) (.cons ((keep q5).hset nf) (.cons ((keep q6).hset nf) .nil)))))))
 simp only [List.length_nil] at a6
 simp only [sc50, sc50r0, sc50r1, sc50r2, sc50r3, sc50r4, ↓rwS, rwT, rwG, Nat.reduceEqDiff, Nat.reduceAdd, reduceCtorEq, Nat.reduceLT, hbox, List.cons_append, List.nil_append, List.length_cons, List.length_nil, ldS, bS, hbox2, call59 ho O, Spc.soundB_t hs, callW_ret ext56 p1, hb0, fa0, fb0, d0, appW_sl u38 u38, a6, st, List.set_cons_zero]
 exact fin
end
section
variable {o : Orc} (ho : FreeT o)
include ho
theorem hs_cs {h v cv l} {x : Int} (H : Co1 h v cv) (hs : IsS 1 cv (ints l)) (hl : l.length < 100000) : CS cx o (.fn 57 [v, .p (.int .i64 x)]) h (.ret (.p (.bool (decide (x ∈ l))))) h :=
 cs_pure (c := cx) (o := o) (f := 57) (ps := [cv, .pv (.int .i64 x)]) (.cons (.one H) (.cons (.one (.p _)) .nil)) rfl fun h0 as0 H0 => by
  obtain ⟨v0, y, rfl, hv0, hy⟩ := l2_2 H0
  have hy' := hy.pv_int
  subst hy'
  obtain ⟨e, h', hr, a, b⟩ := has57 ho ((hv0.one_s hs).sl' hs) (x := x) (by omega)
  exact ⟨e, h', hr, b, [], by rw [a]; simp⟩
theorem wi_cs {h v cv l} {x : Int} (H : Co1 h v cv) (hs : IsS 1 cv (ints l)) (hi : Inc l) (hl : l.length < 100000) :
  ∃ v1 ext, CS cx o (.fn 106 [v, .p (.int .i64 x)]) h (.ret v1) (h ++ ext) ∧ Co1 (h ++ ext) v1 (accV (withL l x)) := by
 obtain ⟨e, ext, h1, h2⟩ := cs_val (c := cx) (o := o) (f := 106) (h := h) («as» := [v, .p (.int .i64 x)]) (ps := [cv, .pv (.int .i64 x)]) (qe := .val (accV (withL l x))) (.cons (.one H) (.cons (.one (.p _)) .nil)) fun h0 as0 H0 => by
  obtain ⟨v0, y, rfl, hv0, hy⟩ := l2_2 H0
  have hy' := hy.pv_int
  subst hy'
  exact with106 ho ((hv0.one_s hs).sl' hs) hi hl
 obtain ⟨v1, rfl, hv1⟩ := h2.val_inv
 exact ⟨v1, ext, h1, hv1.one_s (accV_is _)⟩
theorem wo_cs {h v cv l} {x : Int} (H : Co1 h v cv) (hs : IsS 1 cv (ints l)) (hl : l.length < 100000) :
  ∃ v1 ext, CS cx o (.fn 105 [v, .p (.int .i64 x)]) h (.ret v1) (h ++ ext) ∧ Co1 (h ++ ext) v1 (accV (l.filter fun a => decide (a ≠ x))) := by
 obtain ⟨e, ext, h1, h2⟩ := cs_val (c := cx) (o := o) (f := 105) (h := h) («as» := [v, .p (.int .i64 x)]) (ps := [cv, .pv (.int .i64 x)]) (qe := .val (accV (l.filter fun a => decide (a ≠ x)))) (.cons (.one H) (.cons (.one (.p _)) .nil)) fun h0 as0 H0 => by
  obtain ⟨v0, y, rfl, hv0, hy⟩ := l2_2 H0
  have hy' := hy.pv_int
  subst hy'
  exact without105 ho ((hv0.one_s hs).sl' hs) (by omega)
 obtain ⟨v1, rfl, hv1⟩ := h2.val_inv
 exact ⟨v1, ext, h1, hv1.one_s (accV_is _)⟩
theorem take51_e {h0 cs0 c0 c1 c2 c3 ver tr E} (W : WK h0 136 cs0 (wkC c0 c1 c2 c3 ver tr E)) (hE : E ≠ 0) :
  Ct cx o (.fn 51 [.ptr 0 0]) h0 (fun e h1 => FU h0 h1 ∧ (∃ cs1, WK h1 136 cs1 (wkC c0 c1 c2 c3 ver tr E)) ∧ CoE h1 e (.val (.pv (.int .i64 0)))) := by
 refine ct51 (ho _ _ _ (by decide) (by decide)) rfl ?_
 have W0 := W
 obtain ⟨x0, x1, x2, x3, x4, x5, x6, rfl, q0, q1, q2, q3, q4, q5, q6⟩ := l2_7 W.co
 have q6' := co1_int q6
 subst q6'
 have d6 : load? cx h0 25 (.ptr 0 6) = some (.p (.int .i64 E)) := W.ld a25 rfl
 simp only [sc51, sc51r0, sc51r1, sc51r2, ↓rwS, rwT, rwG, Nat.reduceEqDiff, Nat.reduceAdd, reduceCtorEq, Nat.reduceLT, fb1, d6, hE, decide_false, decide_true, Bool.not_false]
 exact ⟨FU.refl _, ⟨_, W0⟩, .val (.one (.p _))⟩
theorem take51_a {h0 cs0 c0 c1 c2 c3 ver tr} {x : Int} {l fs : List Int} {gn : List Int} (W : WK h0 136 cs0 (wkC c0 c1 c2 c3 ver tr 0)) {ps : List PV} (k0 : IsS 10 c0 ps) (k1 : IsS 1 c1 (ints (x :: l))) (k2 : IsS 1 c2 (ints fs)) (k3 : IsS 1 c3 (ints gn)) (i2 : Inc fs) (l1 : l.length + 1 < 100000) (l2 : fs.length < 100000) :
  Ct cx o (.fn 51 [.ptr 0 0]) h0 (fun e h1 => FU h0 h1 ∧ (∃ cs1, WK h1 136 cs1 (wkC c0 (accV ((x :: l).filter fun a => decide (a ≠ x))) (accV (withL fs x)) c3 ver tr 0)) ∧ CoE h1 e (.val (.pv (.int .i64 x)))) := by
 refine ct51 (ho _ _ _ (by decide) (by decide)) rfl ?_
 obtain ⟨x0, x1, x2, x3, x4, x5, x6, rfl, q0, q1, q2, q3, q4, q5, q6⟩ := l2_7 W.co
 have q6' := co1_int q6
 subst q6'
 have d6 : load? cx h0 25 (.ptr 0 6) = some (.p (.int .i64 0)) := W.ld a25 rfl
 have d1 : load? cx h0 39 (.ptr 0 1) = some x1 := W.ld a39 rfl
 have e1 := (q1.sl' k1).len u39
 have hpos : (0 : Int) < (((ints (x :: l)).length : Nat) : Int) := by rw [ints_length]; simp
 have at0 := int_at (k := 0) (q1.sl' k1) u39 (by simp)
 have ia : indexAddr? cx 39 x1 (.p (.int .i64 0)) = some (rdS x1 0) := at0.1
 have ld : load? cx h0 3 (rdS x1 0) = some (.p (.int .i64 x)) := at0.2
 obtain ⟨v1, ext1, p1, r1⟩ := wo_cs ho (x := x) q1 k1 (by simpa using l1)
 have W1 := W.ext ext1
 have st1 : store? cx (h0 ++ ext1) 39 (.ptr 0 1) v1 = .ws undefA 0 (.cells 136 [x0, v1, x2, x3, x4, x5, .p (.int .i64 0)]) := W1.st (ty := 39) 1 r1 (accV_is _) s39 (by show 1 < 7; decide)
 have W2 : WK (hset (h0 ++ ext1) 0 (.cells 136 [x0, v1, x2, x3, x4, x5, .p (.int .i64 0)])) 136 [x0, v1, x2, x3, x4, x5, .p (.int .i64 0)] (wkC c0 (accV ((x :: l).filter fun a => decide (a ≠ x))) c2 c3 ver tr 0) := W1.put 1 r1
 have u1 := (FU.ext h0 ext1).trans (FU.set (h0 ++ ext1) (.cells 136 [x0, v1, x2, x3, x4, x5, .p (.int .i64 0)]))
 generalize hM2 : hset (h0 ++ ext1) 0 (.cells 136 [x0, v1, x2, x3, x4, x5, .p (.int .i64 0)]) = M2 at *
 have d2 : load? cx M2 39 (.ptr 0 2) = some x2 := W2.ld a39 rfl
 obtain ⟨_, _, _, _, _, _, _, ee, _, _, r2, _, _, _, _⟩ := l2_7 W2.co
 cases ee
 obtain ⟨v2, ext2, p2, r3⟩ := wi_cs ho (x := x) r2 k2 i2 l2
 have W3 := W2.ext ext2
 have st2 : store? cx (M2 ++ ext2) 39 (.ptr 0 2) v2 = .ws undefA 0 (.cells 136 [x0, v1, v2, x3, x4, x5, .p (.int .i64 0)]) := W3.st (ty := 39) 2 r3 (accV_is _) s39 (by show 2 < 7; decide)
 have W4 : WK (hset (M2 ++ ext2) 0 (.cells 136 [x0, v1, v2, x3, x4, x5, .p (.int .i64 0)])) 136 [x0, v1, v2, x3, x4, x5, .p (.int .i64 0)] (wkC c0 (accV ((x :: l).filter fun a => decide (a ≠ x))) (accV (withL fs x)) c3 ver tr 0) := W3.put 2 r3
 have u2 := u1.trans ((FU.ext M2 ext2).trans (FU.set (M2 ++ ext2) (.cells 136 [x0, v1, v2, x3, x4, x5, .p (.int .i64 0)])))
 simp only [sc51, sc51r0, sc51r1, sc51r3, sc51r4, sc51r5, sc51r6, sc51r7, ↓rwS, rwT, rwG, Nat.reduceEqDiff, Nat.reduceAdd, reduceCtorEq, Nat.reduceLT, fb0, fb1, fa1, fa2, d6, decide_true, Bool.not_true, d1, e1, hpos, ia, ld, callW_ret ext105 p1, st1, hM2, d2, callW_ret ext106 p2, st2]
 exact ⟨u2, ⟨_, W4⟩, .val (.one (.p _))⟩
theorem take51_b {h0 cs0 pgs c1 c2 c3 ver tr} {fs gn : List Int} (W : WK h0 136 cs0 (wkC (.own 79 10 pgs) c1 c2 c3 ver tr 0)) (k1 : IsS 1 c1 (ints [])) (k2 : IsS 1 c2 (ints fs)) (k3 : IsS 1 c3 (ints gn)) (i2 : Inc fs) (lp : pgs.length < 4096) (l2 : fs.length < 100000) :
  Ct cx o (.fn 51 [.ptr 0 0]) h0 (fun e h1 => FU h0 h1 ∧ (∃ cs1, WK h1 136 cs1 (wkC (.own 79 10 (pgs ++ [zeroPage])) c1 (accV (withL fs (pgs.length : Nat))) c3 ver tr 0)) ∧ CoE h1 e (.val (.pv (.int .i64 (pgs.length : Nat))))) := by
 refine ct51 (ho _ _ _ (by decide) (by decide)) rfl ?_
 obtain ⟨x0, x1, x2, x3, x4, x5, x6, rfl, q0, q1, q2, q3, q4, q5, q6⟩ := l2_7 W.co
 have q6' := co1_int q6
 subst q6'
 have d6 : load? cx h0 25 (.ptr 0 6) = some (.p (.int .i64 0)) := W.ld a25 rfl
 have d1 : load? cx h0 39 (.ptr 0 1) = some x1 := W.ld a39 rfl
 have d0 : load? cx h0 38 (.ptr 0 0) = some x0 := W.ld a38 rfl
 have e1 := (q1.sl' k1).len u39
 have e0 := (q0.sl' (.own _ _)).len u38
 have hpos : ¬((0 : Int) < (((ints []).length : Nat) : Int)) := by decide
 have hp4 : ((pgs.length : Nat) : Int) < 4096 := by omega
 -- need
 obtain ⟨en, h1, p0, u0, ⟨cs1, W1⟩, p4⟩ := methW ho (f := 56) (bs := [.p (.bool true), .p (.int .i64 7)]) (ps := [.pv (.bool true), .pv (.int .i64 7)]) (qcvs := wkC (.own 79 10 pgs) c1 c2 c3 ver tr (needE true 0 7)) (qe := .val (.pv (.bool (decide (needE true 0 7 = 0))))) W (.cons (.one (.p _)) (.cons (.one (.p _)) .nil)) (fun e qs q => by cases q) (fun h0 cs0 as0 W b3 => by
  obtain ⟨y, z, rfl, hy, hz⟩ := l2_2 b3
  have hz' := hz.pv_int
  subst hz'
  have hy' : y = .p (.bool true) := by cases hy with | one h1 => cases h1; rfl
  subst hy'
  exact need56 ho W)
 obtain ⟨v, rfl, hv⟩ := p4.val_inv
 have hv' : v = .p (.bool true) := by cases hv with | one h1 => cases h1; rfl
 subst hv'
 have W1 : WK h1 136 cs1 (wkC (.own 79 10 pgs) c1 c2 c3 ver tr 0) := W1
 obtain ⟨x0, x1, x2, x3, x4, x5, x6, rfl, q0, q1, q2, q3, q4, q5, q6⟩ := l2_7 W1.co
 have q6' := co1_int q6
 subst q6'
 -- append
 have hb := build1 (c := cx) (h := h1) (v := zeroPage) u38 s79 a79 z79 rfl rfl rfl
 obtain ⟨v1, M1, a1, a2, a3', a4, a5, a6⟩ := app_own (c := cx) (o := o) (rd := none) ((own_inv q0).ext [.row 79 10 [zeroPage] true 0]) s79 (by decide) (x := .sl h1.length 0 10 0 1) (elems_sl1 (xs := [zeroPage]) (hget_new _ _)) rfl (by simp) (room_le room79 (by simp; omega))
 have hne : ∀ j ∈ ids1 x0, j ≠ 0 := fun j hj q => by
  subst q
  have := q0.flat 0 hj
  rw [W1.at0] at this; cases this
 have hn0 : 0 ∉ ids1 x0 := fun q => hne 0 q rfl
 have We := W1.ext [.row 79 10 [zeroPage] true 0]
 have y1 : hget M1 0 = .cells 136 [x0, x1, x2, x3, x4, x5, .p (.int .i64 0)] := by rw [a3' 0 We.lt hn0]; exact We.at0
 have kk : Co1 M1 v1 (.own 79 10 (pgs ++ [zeroPage])) := a1.co1 (by
  intro q
  generalize hxs : pgs ++ [zeroPage] = xs at a1
  cases a1 with
  | nil => simp at hxs
  | row => cases q)
 have keep : ∀ {x c l}, Co1 h1 x c → IsS 1 c l → Co1 M1 x c := fun {x c l} hx hs => (hx.ext [.row 79 10 [zeroPage] true 0]).keep fun j hj => a3' j (ids1_lt (hx.ext [.row 79 10 [zeroPage] true 0]) j hj) (disj10 q0 hx hs j hj)
 have hnf1 : flat (hget M1 0) = false := by rw [y1]; rfl
 have st1 : store? cx M1 38 (.ptr 0 0) v1 = .ws undefA 0 (.cells 136 [v1, x1, x2, x3, x4, x5, .p (.int .i64 0)]) := store_cell (c := cx) (off := 0) s38 y1 (kk.one_cell (.own _ _)) (show 0 < 7 by decide)
 have hl1 := hget_cells_lt y1
 have q4' := co1_int q4
 have q5' := co1_int q5
 have W2 : WK (hset M1 0 (.cells 136 [v1, x1, x2, x3, x4, x5, .p (.int .i64 0)])) 136 [v1, x1, x2, x3, x4, x5, .p (.int .i64 0)] (wkC (.own 79 10 (pgs ++ [zeroPage])) c1 c2 c3 ver tr 0) :=
  ⟨by rw [hget_hset _ _ _ _ hl1, if_pos rfl], .cons (kk.hset hnf1) (.cons ((keep q1 k1).hset hnf1) (.cons ((keep q2 k2).hset hnf1) (.cons ((keep q3 k3).hset hnf1) (.cons (by rw [q4']; exact .p _) (.cons (by rw [q5']; exact .p _) (.cons (.p _) .nil))))))⟩
 have uu : FU (h1 ++ [.row 79 10 [zeroPage] true 0]) M1 := ⟨a2, fun j _ hj hf => a4 j hj hf⟩
 have u1 := (u0.trans ((FU.ext h1 [.row 79 10 [zeroPage] true 0]).trans uu)).trans (FU.set M1 (.cells 136 [v1, x1, x2, x3, x4, x5, .p (.int .i64 0)]))
 generalize hM2 : hset M1 0 (.cells 136 [v1, x1, x2, x3, x4, x5, .p (.int .i64 0)]) = M2 at *
 have g0 : load? cx h1 38 (.ptr 0 0) = some x0 := W1.ld a38 rfl
 have g0' : load? cx (h1 ++ [.row 79 10 [zeroPage] true 0]) 38 (.ptr 0 0) = some x0 := We.ld a38 rfl
 have d2 : load? cx M2 39 (.ptr 0 2) = some x2 := W2.ld a39 rfl
 obtain ⟨_, _, _, _, _, _, _, ee, _, _, r2, _, _, _, _⟩ := l2_7 W2.co
 cases ee
 obtain ⟨v2, ext2, p2, r3⟩ := wi_cs ho (x := ((pgs.length : Nat) : Int)) r2 k2 i2 l2
 have W3 := W2.ext ext2
 have st2 : store? cx (M2 ++ ext2) 39 (.ptr 0 2) v2 = .ws undefA 0 (.cells 136 [v1, x1, v2, x3, x4, x5, .p (.int .i64 0)]) := W3.st (ty := 39) 2 r3 (accV_is _) s39 (by show 2 < 7; decide)
 have W4 : WK (hset (M2 ++ ext2) 0 (.cells 136 [v1, x1, v2, x3, x4, x5, .p (.int .i64 0)])) 136 [v1, x1, v2, x3, x4, x5, .p (.int .i64 0)] (wkC (.own 79 10 (pgs ++ [zeroPage])) c1 (accV (withL fs (pgs.length : Nat))) c3 ver tr 0) := W3.put 2 r3
 have u2 := u1.trans ((FU.ext M2 ext2).trans (FU.set (M2 ++ ext2) (.cells 136 [v1, x1, v2, x3, x4, x5, .p (.int .i64 0)])))
 simp only [sc51, sc51r0, sc51r1, sc51r3, sc51r8, sc51r9, sc51r11, sc51r12, sc51r13, ↓rwS, rwT, rwG, Nat.reduceEqDiff, Nat.reduceAdd, reduceCtorEq, Nat.reduceLT, fb0, fb1, fa0, fa1, fa2, d6, decide_true, decide_false, Bool.not_true, d0, d1, e0, e1, hpos, hp4, callW_ret ext56 p0, g0, b79, hb, g0', appW_sl u38 u38, a6, st1, hM2, d2, callW_ret ext106 p2, st2]
 exact ⟨u2, ⟨_, W4⟩, .val (.one (.p _))⟩
theorem take51_c {h0 cs0 c0 pgs c1 c2 c3 ver tr} (W : WK h0 136 cs0 (wkC c0 c1 c2 c3 ver tr 0)) (k0 : IsS 10 c0 pgs) (k1 : IsS 1 c1 (ints [])) (lp : 4096 ≤ pgs.length) :
  Ct cx o (.fn 51 [.ptr 0 0]) h0 (fun e h1 => FU h0 h1 ∧ (∃ cs1, WK h1 136 cs1 (wkC c0 c1 c2 c3 ver tr 7)) ∧ CoE h1 e (.val (.pv (.int .i64 0)))) := by
 refine ct51 (ho _ _ _ (by decide) (by decide)) rfl ?_
 obtain ⟨x0, x1, x2, x3, x4, x5, x6, rfl, q0, q1, q2, q3, q4, q5, q6⟩ := l2_7 W.co
 have q6' := co1_int q6
 subst q6'
 have d6 : load? cx h0 25 (.ptr 0 6) = some (.p (.int .i64 0)) := W.ld a25 rfl
 have d1 : load? cx h0 39 (.ptr 0 1) = some x1 := W.ld a39 rfl
 have d0 : load? cx h0 38 (.ptr 0 0) = some x0 := W.ld a38 rfl
 have e1 := (q1.sl' k1).len u39
 have e0 := (q0.sl' k0).len u38
 have hpos : ¬((0 : Int) < (((ints []).length : Nat) : Int)) := by decide
 have hp4 : ¬((pgs.length : Nat) : Int) < 4096 := by omega
 obtain ⟨en, h1, p0, u0, ⟨cs1, W1⟩, p4⟩ := methW ho (f := 56) (bs := [.p (.bool false), .p (.int .i64 7)]) (ps := [.pv (.bool false), .pv (.int .i64 7)]) (qcvs := wkC c0 c1 c2 c3 ver tr (needE false 0 7)) (qe := .val (.pv (.bool (decide (needE false 0 7 = 0))))) W (.cons (.one (.p _)) (.cons (.one (.p _)) .nil)) (fun e qs q => by cases q) (fun h0 cs0 as0 W b3 => by
  obtain ⟨y, z, rfl, hy, hz⟩ := l2_2 b3
  have hz' := hz.pv_int
  subst hz'
  have hy' : y = .p (.bool false) := by cases hy with | one h1 => cases h1; rfl
  subst hy'
  exact need56 ho W)
 obtain ⟨v, rfl, hv⟩ := p4.val_inv
 have hv' : v = .p (.bool false) := by cases hv with | one h1 => cases h1; rfl
 subst hv'
 have W1 : WK h1 136 cs1 (wkC c0 c1 c2 c3 ver tr 7) := W1
 simp only [sc51, sc51r0, sc51r1, sc51r3, sc51r8, sc51r9, sc51r10, ↓rwS, rwT, rwG, Nat.reduceEqDiff, Nat.reduceAdd, reduceCtorEq, Nat.reduceLT, fb0, fb1, fa0, fa1, d6, decide_true, decide_false, Bool.not_true, d0, d1, e0, e1, hpos, hp4, callW_ret ext56 p0]
 exact ⟨u0, ⟨_, W1⟩, .val (.one (.p _))⟩
end
def zTree : PV := .agg ([.int .i64 0, .int .i64 0] ++ List.replicate 16 (.int .u8 0))
def zEnt : PV := .agg ([.str [], .str [], .int .i64 0, .int .i64 0, .int .i64 0, .int .i64 0] ++ List.replicate 16 (.int .u8 0))
theorem b48 : build? cx 48 [] = some (.p zTree) := by kernel_rfl
theorem b50 : build? cx 50 [] = some (.p zEnt) := by kernel_rfl
def madeV (a b c d : PV) (v t no E : Int) : PV := .agg ([a, b, c, d, .int .i64 v, .int .i64 t] ++ zTree.cells ++ zEnt.cells ++ [.int .i64 no, .int .i64 E])
def madeA (x0 x1 x2 x3 : AV) (v t no E : Int) : List AV := [x0, x1, x2, x3, .p (.int .i64 v), .p (.int .i64 t)] ++ zTree.cells.map .p ++ zEnt.cells.map .p ++ [.p (.int .i64 no), .p (.int .i64 E)]
def madeC (c0 c1 c2 c3 : CV) (v t no E : Int) : List CV := [c0, c1, c2, c3, .pv (.int .i64 v), .pv (.int .i64 t)] ++ zTree.cells.map .pv ++ zEnt.cells.map .pv ++ [.pv (.int .i64 no), .pv (.int .i64 E)]
theorem b52e (E : Int) : build? cx 52 [(4, .p (.int .i64 E))] = some (.p (madeV .nils .nils .nils .nils 0 0 0 E)) := by kernel_rfl
theorem b52 (i g n : Nat) (x1 x2 x3 : AV) (v t no : Int) : build? cx 52 [(0, .agg [.sl i g 10 0 n, x1, x2, x3, .p (.int .i64 v), .p (.int .i64 t)]), (1, .p zTree), (2, .p zEnt), (3, .p (.int .i64 no))] = some (.agg (madeA (.sl i g 10 0 n) x1 x2 x3 v t no 0)) := by kernel_rfl
theorem z52 : zero? cx 52 = some (madeV .nils .nils .nils .nils 0 0 0 0) := by kernel_rfl
theorem madeA_co {h x0 x1 x2 x3 c0 c1 c2 c3 v t no E} (q0 : Co1 h x0 c0) (q1 : Co1 h x1 c1) (q2 : Co1 h x2 c2) (q3 : Co1 h x3 c3) : L2 (Co1 h) (madeA x0 x1 x2 x3 v t no E) (madeC c0 c1 c2 c3 v t no E) := by
 have app : ∀ {a : List AV} {b : List CV} {a' : List AV} {b' : List CV}, L2 (Co1 h) a b → L2 (Co1 h) a' b' → L2 (Co1 h) (a ++ a') (b ++ b') := fun {a b a' b'} H H' => by
  induction H with
  | nil => exact H'
  | cons h _ ih => exact .cons h ih
 have mp : ∀ l : List PV, L2 (Co1 h) (l.map .p) (l.map .pv) := fun l => by
  induction l with
  | nil => exact .nil
  | cons a l ih => exact .cons (.p _) ih
 exact app (app (app (.cons q0 (.cons q1 (.cons q2 (.cons q3 (.cons (.p _) (.cons (.p _) .nil)))))) (mp _)) (mp _)) (.cons (.p _) (.cons (.p _) .nil))
section
variable {o : Orc} (ho : FreeT o)
include ho
theorem rel58_e {h0 cs0 c0 c1 c2 c3 ver tr E} {x : Int} (W : WK h0 136 cs0 (wkC c0 c1 c2 c3 ver tr E)) (hE : E ≠ 0) :
  Ct cx o (.fn 58 [.ptr 0 0, .p (.int .i64 x)]) h0 (fun e h1 => FU h0 h1 ∧ (∃ cs1, WK h1 136 cs1 (wkC c0 c1 c2 c3 ver tr E)) ∧ CoE h1 e (.vals [])) := by
 refine ct58 (ho _ _ _ (by decide) (by decide)) rfl ?_
 have W0 := W
 obtain ⟨x0, x1, x2, x3, x4, x5, x6, rfl, q0, q1, q2, q3, q4, q5, q6⟩ := l2_7 W.co
 have q6' := co1_int q6
 subst q6'
 have d6 : load? cx h0 25 (.ptr 0 6) = some (.p (.int .i64 E)) := W.ld a25 rfl
 simp only [sc58, sc58r0, ↓rwS, rwT, rwG, Nat.reduceEqDiff, Nat.reduceAdd, reduceCtorEq, Nat.reduceLT, fb1, d6, hE, decide_false, decide_true, Bool.not_false]
 exact ⟨FU.refl _, ⟨_, W0⟩, .vals .nil⟩
theorem rel58_a {h0 cs0 c0 c1 c2 c3 ver tr} {x : Int} {fs gn : List Int} (W : WK h0 136 cs0 (wkC c0 c1 c2 c3 ver tr 0)) (k2 : IsS 1 c2 (ints fs)) (k3 : IsS 1 c3 (ints gn)) (i3 : Inc gn) (l2 : fs.length < 100000) (l3 : gn.length < 100000) (hx : x ∉ fs) :
  Ct cx o (.fn 58 [.ptr 0 0, .p (.int .i64 x)]) h0 (fun e h1 => FU h0 h1 ∧ (∃ cs1, WK h1 136 cs1 (wkC c0 c1 c2 (accV (withL gn x)) ver tr 0)) ∧ CoE h1 e (.vals [])) := by
 refine ct58 (ho _ _ _ (by decide) (by decide)) rfl ?_
 obtain ⟨x0, x1, x2, x3, x4, x5, x6, rfl, q0, q1, q2, q3, q4, q5, q6⟩ := l2_7 W.co
 have q6' := co1_int q6
 subst q6'
 have d6 : load? cx h0 25 (.ptr 0 6) = some (.p (.int .i64 0)) := W.ld a25 rfl
 have d2 : load? cx h0 39 (.ptr 0 2) = some x2 := W.ld a39 rfl
 have d3 : load? cx h0 39 (.ptr 0 3) = some x3 := W.ld a39 rfl
 have p0 := hs_cs ho (x := x) q2 k2 l2
 obtain ⟨v1, ext1, p1, r1⟩ := wi_cs ho (x := x) q3 k3 i3 l3
 have W1 := W.ext ext1
 have st1 : store? cx (h0 ++ ext1) 39 (.ptr 0 3) v1 = .ws undefA 0 (.cells 136 [x0, x1, x2, v1, x4, x5, .p (.int .i64 0)]) := W1.st (ty := 39) 3 r1 (accV_is _) s39 (by show 3 < 7; decide)
 have W2 : WK (hset (h0 ++ ext1) 0 (.cells 136 [x0, x1, x2, v1, x4, x5, .p (.int .i64 0)])) 136 [x0, x1, x2, v1, x4, x5, .p (.int .i64 0)] (wkC c0 c1 c2 (accV (withL gn x)) ver tr 0) := W1.put 3 r1
 simp only [sc58, sc58r0, sc58r1, sc58r2, ↓rwS, rwT, rwG, Nat.reduceEqDiff, Nat.reduceAdd, reduceCtorEq, Nat.reduceLT, fb0, fb1, fa2, fa3, d6, decide_true, decide_false, Bool.not_true, Bool.not_false, d2, callW_ret ext57 p0, hx, d3, callW_ret ext106 p1, st1]
 exact ⟨(FU.ext h0 ext1).trans (FU.set _ _), ⟨_, W2⟩, .vals .nil⟩
theorem rel58_b {h0 cs0 pgs c1 c2 c3 ver tr} {x : Nat} {fr fs gn : List Int} (W : WK h0 136 cs0 (wkC (.own 79 10 pgs) c1 c2 c3 ver tr 0)) (k1 : IsS 1 c1 (ints fr)) (k2 : IsS 1 c2 (ints fs)) (k3 : IsS 1 c3 (ints gn)) (i1 : Inc fr) (l1 : fr.length < 100000) (l2 : fs.length < 100000) (hx : (x : Int) ∈ fs) {l : List PV} (hp : pgs[x]? = some (.agg l)) (hl : l.length = 10) :
  Ct cx o (.fn 58 [.ptr 0 0, .p (.int .i64 x)]) h0 (fun e h1 => FU h0 h1 ∧ (∃ cs1, WK h1 136 cs1 (wkC (.own 79 10 (pgs.set x zeroPage)) (accV (withL fr x)) (accV (fs.filter fun a => decide (a ≠ (x : Int)))) c3 ver tr 0)) ∧ CoE h1 e (.vals [])) := by
 refine ct58 (ho _ _ _ (by decide) (by decide)) rfl ?_
 obtain ⟨x0, x1, x2, x3, x4, x5, x6, rfl, q0, q1, q2, q3, q4, q5, q6⟩ := l2_7 W.co
 have q6' := co1_int q6
 subst q6'
 have d6 : load? cx h0 25 (.ptr 0 6) = some (.p (.int .i64 0)) := W.ld a25 rfl
 have d2 : load? cx h0 39 (.ptr 0 2) = some x2 := W.ld a39 rfl
 have p0 := hs_cs ho (x := (x : Int)) q2 k2 l2
 obtain ⟨v1, ext1, p1, r1⟩ := wo_cs ho (x := (x : Int)) q2 k2 l2
 have W1 := W.ext ext1
 have st1 : store? cx (h0 ++ ext1) 39 (.ptr 0 2) v1 = .ws undefA 0 (.cells 136 [x0, x1, v1, x3, x4, x5, .p (.int .i64 0)]) := W1.st (ty := 39) 2 r1 (accV_is _) s39 (by show 2 < 7; decide)
 have W2 : WK (hset (h0 ++ ext1) 0 (.cells 136 [x0, x1, v1, x3, x4, x5, .p (.int .i64 0)])) 136 [x0, x1, v1, x3, x4, x5, .p (.int .i64 0)] (wkC (.own 79 10 pgs) c1 (accV (fs.filter fun a => decide (a ≠ (x : Int)))) c3 ver tr 0) := W1.put 2 r1
 have u1 := (FU.ext h0 ext1).trans (FU.set (h0 ++ ext1) (.cells 136 [x0, x1, v1, x3, x4, x5, .p (.int .i64 0)]))
 generalize hM2 : hset (h0 ++ ext1) 0 (.cells 136 [x0, x1, v1, x3, x4, x5, .p (.int .i64 0)]) = M2 at *
 have d1 : load? cx M2 39 (.ptr 0 1) = some x1 := W2.ld a39 rfl
 obtain ⟨_, _, _, _, _, _, _, e0, r0, r1, r2, r3, r4, r5, r6⟩ := l2_7 W2.co
 cases e0
 obtain ⟨v2, ext2, p2, k2'⟩ := wi_cs ho (x := (x : Int)) r1 k1 i1 l1
 have W3 := W2.ext ext2
 have st2 : store? cx (M2 ++ ext2) 39 (.ptr 0 1) v2 = .ws undefA 0 (.cells 136 [x0, v2, v1, x3, x4, x5, .p (.int .i64 0)]) := W3.st (ty := 39) 1 k2' (accV_is _) s39 (by show 1 < 7; decide)
 have W4 : WK (hset (M2 ++ ext2) 0 (.cells 136 [x0, v2, v1, x3, x4, x5, .p (.int .i64 0)])) 136 [x0, v2, v1, x3, x4, x5, .p (.int .i64 0)] (wkC (.own 79 10 pgs) (accV (withL fr x)) (accV (fs.filter fun a => decide (a ≠ (x : Int)))) c3 ver tr 0) := W3.put 1 k2'
 have u2 := u1.trans ((FU.ext M2 ext2).trans (FU.set (M2 ++ ext2) (.cells 136 [x0, v2, v1, x3, x4, x5, .p (.int .i64 0)])))
 generalize hM4 : hset (M2 ++ ext2) 0 (.cells 136 [x0, v2, v1, x3, x4, x5, .p (.int .i64 0)]) = M4 at *
 have d0 : load? cx M4 38 (.ptr 0 0) = some x0 := W4.ld a38 rfl
 obtain ⟨_, _, _, _, _, _, _, e0, r0, r1, r2, r3, r4, r5, r6⟩ := l2_7 W4.co
 cases e0
 have hxl : x < pgs.length := (List.getElem?_eq_some_iff.1 hp).1
 obtain ⟨i, g, ex, hx0, hr⟩ : ∃ i g ex, x0 = .sl i g 10 0 pgs.length ∧ hget M4 i = .row 79 10 pgs ex g := by
  have := own_inv r0
  cases this with
  | nil => simp at hxl
  | row hr => exact ⟨_, _, _, rfl, hr⟩
 have ia : indexAddr? cx 38 x0 (.p (.int .i64 (x : Int))) = some (.el i g 10 x 0) := by
  rw [(r0.sl' (.own _ _)).at (sz := 9) u38 s79 (by omega) (by omega), hx0]
  show some (AV.el i g 10 (0 + x) 0) = _
  rw [Nat.zero_add]
 have st3 := store_elA (c := cx) (l' := [.int .i64 0, .int .i64 0, .int .i64 0, .int .i64 0, .int .i64 0, .bool false, .nils, .int .i64 0, .str [], .nils]) s79 hr hp hl rfl
 have hi0 : 0 ≠ i := fun q => by subst q; rw [W4.at0] at hr; cases hr
 have hil := hget_flat_lt (h := M4) (i := i) (by rw [hr]; rfl)
 have hx0i : ids1 x0 = [i] := by rw [hx0]; rfl
 have W5 : WK (hset M4 i (.row 79 10 (pgs.set x zeroPage) ex g)) 136 [x0, v2, v1, x3, x4, x5, .p (.int .i64 0)] (wkC (.own 79 10 (pgs.set x zeroPage)) (accV (withL fr x)) (accV (fs.filter fun a => decide (a ≠ (x : Int)))) c3 ver tr 0) := by
  have nn : ∀ {y c l}, Co1 M4 y c → IsS 1 c l → Co1 (hset M4 i (.row 79 10 (pgs.set x zeroPage) ex g)) y c := fun H hs => H.hset_row fun q => disj10 r0 H hs _ q (by rw [hx0i]; exact List.mem_singleton.2 rfl)
  refine ⟨by rw [hget_hset _ _ _ _ hil, if_neg hi0]; exact W4.at0, .cons ?_ (.cons (nn r1 (accV_is _)) (.cons (nn r2 (accV_is _)) (.cons (nn r3 k3) (.cons ?_ (.cons ?_ (.cons (.p _) .nil))))))⟩
  ·rw [hx0, show pgs.length = (pgs.set x zeroPage).length by simp]
   exact .own (by rw [hget_hset _ _ _ _ hil, if_pos rfl])
  ·cases r4; exact .p _
  ·cases r5; exact .p _
 have u3 : FU M4 (hset M4 i (.row 79 10 (pgs.set x zeroPage) ex g)) := ⟨by rw [hset_length]; exact Nat.le_refl _, fun j h1 h2 h3 => by
  rw [hget_hset _ _ _ _ hil]
  by_cases q : j = i
  ·rw [if_pos q]; rfl
  ·rw [if_neg q]; exact h3⟩
 simp only [sc58, sc58r0, sc58r1, sc58r3, sc58r4, sc58r5, ↓rwS, rwT, rwG, Nat.reduceEqDiff, Nat.reduceAdd, reduceCtorEq, Nat.reduceLT, fb0, fb1, fa0, fa1, fa2, d6, decide_true, decide_false, Bool.not_true, Bool.not_false, d2, callW_ret ext57 p0, hx, callW_ret ext105 p1, st1, hM2, d1, callW_ret ext106 p2, st2, hM4, d0, b79, ia, zeroPage, st3]
 exact ⟨u2.trans u3, ⟨_, W5⟩, .vals .nil⟩
end
theorem load_pre {c : Ctx} {h : List Ob} {ty e : TypeId} {n i : Nat} {cs : List AV} (ha : aggT? c ty = some true) (hs : sizeOf? c ty = some n) (hi : hget h i = .cells e cs) (h2 : n ≤ cs.length) : load? c h ty (.ptr i 0) = some (mkAgg (cs.take n)) := by
 show loadPtr c h ty i 0 = _
 unfold loadPtr
 simp only [hi]
 unfold partA?
 simp only [ha, hs]
 unfold subK
 rw [Nat.ble_eq_true_of_le (by omega)]
 simp only [cond, lnf_eq, List.drop_zero]
theorem co_agg {h v l} (H : Co h v (.pv (.agg l))) : v = .p (.agg l) := by
 cases H with | one h1 => cases h1; rfl
def toldQ (c1 c2 c3 : CV) (pgs : List PV) (v t no : Int) : QE := .val (.agg (madeC (.own 79 10 pgs) c1 c2 c3 v t no 0))
def toldE (E : Int) : QE := .val (.pv (madeV .nils .nils .nils .nils 0 0 0 E))
section
variable {o : Orc} (ho : FreeT o)
include ho
theorem told52_e {h0 cs0 c0 c1 c2 c3 ver tr E} {no : Int} (W : WK h0 136 cs0 (wkC c0 c1 c2 c3 ver tr E)) (hE : E ≠ 0) :
  Ct cx o (.fn 52 [.ptr 0 0, .p zTree, .p zEnt, .p (.int .i64 no)]) h0 (fun e h1 => FU h0 h1 ∧ (∃ cs1, WK h1 136 cs1 (wkC c0 c1 c2 c3 ver tr E)) ∧ CoE h1 e (toldE E)) := by
 refine ct52 (ho _ _ _ (by decide) (by decide)) rfl ?_
 have W0 := W
 obtain ⟨x0, x1, x2, x3, x4, x5, x6, rfl, q0, q1, q2, q3, q4, q5, q6⟩ := l2_7 W.co
 have q6' := co1_int q6
 subst q6'
 have hb1 : ∀ hh : List Ob, boxW hh 48 (.p zTree) = .wn (.ptr hh.length 0) (.cells 48 (zTree.cells.map .p)) := fun hh => rfl
 have hb2 : ∀ hh : List Ob, boxW hh 50 (.p zEnt) = .wn (.ptr hh.length 0) (.cells 50 (zEnt.cells.map .p)) := fun hh => rfl
 have W1 := W.ext [Ob.cells 48 (zTree.cells.map .p), .cells 50 (zEnt.cells.map .p), .cells 52 ((madeV .nils .nils .nils .nils 0 0 0 0).cells.map .p)]
 have d6 : load? cx (h0 ++ [Ob.cells 48 (zTree.cells.map .p), .cells 50 (zEnt.cells.map .p), .cells 52 ((madeV .nils .nils .nils .nils 0 0 0 0).cells.map .p)]) 25 (.ptr 0 6) = some (.p (.int .i64 E)) := W1.ld a25 rfl
 have y2 : hget (h0 ++ [Ob.cells 48 (zTree.cells.map .p), .cells 50 (zEnt.cells.map .p), .cells 52 ((madeV .nils .nils .nils .nils 0 0 0 0).cells.map .p)]) (h0.length + 2) = .cells 52 ((madeV .nils .nils .nils .nils 0 0 0 0).cells.map .p) := by
  rw [hget_eq, List.getElem?_append_right (by omega), show h0.length + 2 - h0.length = 2 by omega]; rfl
 have l2 := hget_cells_lt y2
 have st := store_whole (c := cx) (v := .p (madeV .nils .nils .nils .nils 0 0 0 E)) s52 y2 (show (AV.p (madeV .nils .nils .nils .nils 0 0 0 E)).cells? = some ((madeV .nils .nils .nils .nils 0 0 0 E).cells.map .p) from rfl) rfl rfl
 have W2 : WK (hset (h0 ++ [Ob.cells 48 (zTree.cells.map .p), .cells 50 (zEnt.cells.map .p), .cells 52 ((madeV .nils .nils .nils .nils 0 0 0 0).cells.map .p)]) (h0.length + 2) (.cells 52 ((madeV .nils .nils .nils .nils 0 0 0 E).cells.map .p))) 136 [x0, x1, x2, x3, x4, x5, .p (.int .i64 E)] (wkC c0 c1 c2 c3 ver tr E) :=
  ⟨by rw [hget_hset _ _ _ _ l2, if_neg (by omega)]; exact W1.at0, W1.co.imp fun a b q => q.hset (by rw [y2]; rfl)⟩
 have lw : load? cx (hset (h0 ++ [Ob.cells 48 (zTree.cells.map .p), .cells 50 (zEnt.cells.map .p), .cells 52 ((madeV .nils .nils .nils .nils 0 0 0 0).cells.map .p)]) (h0.length + 2) (.cells 52 ((madeV .nils .nils .nils .nils 0 0 0 E).cells.map .p))) 52 (.ptr (h0.length + 2) 0) = some (.p (madeV .nils .nils .nils .nils 0 0 0 E)) := by
  rw [load_whole (n := 48) a52 s52 (by rw [hget_hset _ _ _ _ l2, if_pos rfl]) rfl, mkAgg_p]; rfl
 have u : FU h0 (hset (h0 ++ [Ob.cells 48 (zTree.cells.map .p), .cells 50 (zEnt.cells.map .p), .cells 52 ((madeV .nils .nils .nils .nils 0 0 0 0).cells.map .p)]) (h0.length + 2) (.cells 52 ((madeV .nils .nils .nils .nils 0 0 0 E).cells.map .p))) :=
  ⟨by rw [hset_length]; simp, fun j h1 h2 h3 => by rw [hget_hset _ _ _ _ l2, if_neg (by omega), hget_appL _ _ h2]; exact h3⟩
 simp only [sc52, sc52r0, sc52r1, sc52r2, ↓rwS, rwT, rwG, Nat.reduceEqDiff, Nat.reduceAdd, reduceCtorEq, Nat.reduceLT, hb1, hb2, z52, fb1, List.append_assoc, List.cons_append, List.nil_append, List.length_append, List.length_cons, List.length_nil, d6, hE, decide_false, decide_true, Bool.not_false, b52e, st, lw]
 exact ⟨u, ⟨_, W2⟩, .val (.one (.p _))⟩
theorem told52_t {h0 cs0 pgs c1 c2 c3 ver tr} {no : Int} (W : WK h0 136 cs0 (wkC (.own 79 10 pgs) c1 c2 c3 ver tr 0)) :
  Ct cx o (.fn 52 [.ptr 0 0, .p zTree, .p zEnt, .p (.int .i64 no)]) h0 (fun e h1 => FU h0 h1 ∧ (∃ cs1, WK h1 136 cs1 (wkC (.own 79 10 pgs) c1 c2 c3 ver tr 0)) ∧ CoE h1 e (toldQ c1 c2 c3 pgs ver tr no)) := by
 refine ct52 (ho _ _ _ (by decide) (by decide)) rfl ?_
 obtain ⟨x0, x1, x2, x3, x4, x5, x6, rfl, q0, q1, q2, q3, q4, q5, q6⟩ := l2_7 W.co
 have q6' := co1_int q6
 have q5' := co1_int q5
 have q4' := co1_int q4
 subst q6' q5' q4'
 have hb1 : ∀ hh : List Ob, boxW hh 48 (.p zTree) = .wn (.ptr hh.length 0) (.cells 48 (zTree.cells.map .p)) := fun hh => rfl
 have hb2 : ∀ hh : List Ob, boxW hh 50 (.p zEnt) = .wn (.ptr hh.length 0) (.cells 50 (zEnt.cells.map .p)) := fun hh => rfl
 have W1 := W.ext [Ob.cells 48 (zTree.cells.map .p), .cells 50 (zEnt.cells.map .p), .cells 52 ((madeV .nils .nils .nils .nils 0 0 0 0).cells.map .p)]
 have n0 : hget (h0 ++ [Ob.cells 48 (zTree.cells.map .p), .cells 50 (zEnt.cells.map .p), .cells 52 ((madeV .nils .nils .nils .nils 0 0 0 0).cells.map .p)]) h0.length = .cells 48 (zTree.cells.map .p) := by
  rw [hget_eq, List.getElem?_append_right (by omega), show h0.length - h0.length = 0 by omega]; rfl
 have n1 : hget (h0 ++ [Ob.cells 48 (zTree.cells.map .p), .cells 50 (zEnt.cells.map .p), .cells 52 ((madeV .nils .nils .nils .nils 0 0 0 0).cells.map .p)]) (h0.length + 1) = .cells 50 (zEnt.cells.map .p) := by
  rw [hget_eq, List.getElem?_append_right (by omega), show h0.length + 1 - h0.length = 1 by omega]; rfl
 have y2 : hget (h0 ++ [Ob.cells 48 (zTree.cells.map .p), .cells 50 (zEnt.cells.map .p), .cells 52 ((madeV .nils .nils .nils .nils 0 0 0 0).cells.map .p)]) (h0.length + 2) = .cells 52 ((madeV .nils .nils .nils .nils 0 0 0 0).cells.map .p) := by
  rw [hget_eq, List.getElem?_append_right (by omega), show h0.length + 2 - h0.length = 2 by omega]; rfl
 have d6 : load? cx (h0 ++ [Ob.cells 48 (zTree.cells.map .p), .cells 50 (zEnt.cells.map .p), .cells 52 ((madeV .nils .nils .nils .nils 0 0 0 0).cells.map .p)]) 25 (.ptr 0 6) = some (.p (.int .i64 0)) := W1.ld a25 rfl
 have d48 : load? cx (h0 ++ [Ob.cells 48 (zTree.cells.map .p), .cells 50 (zEnt.cells.map .p), .cells 52 ((madeV .nils .nils .nils .nils 0 0 0 0).cells.map .p)]) 48 (.ptr h0.length 0) = some (.p zTree) := by
  rw [load_whole (n := 18) a48 s48 n0 rfl, mkAgg_p]; rfl
 have d50 : load? cx (h0 ++ [Ob.cells 48 (zTree.cells.map .p), .cells 50 (zEnt.cells.map .p), .cells 52 ((madeV .nils .nils .nils .nils 0 0 0 0).cells.map .p)]) 50 (.ptr (h0.length + 1) 0) = some (.p zEnt) := by
  rw [load_whole (n := 22) a50 s50 n1 rfl, mkAgg_p]; rfl
 have d41 : load? cx (h0 ++ [Ob.cells 48 (zTree.cells.map .p), .cells 50 (zEnt.cells.map .p), .cells 52 ((madeV .nils .nils .nils .nils 0 0 0 0).cells.map .p)]) 41 (.ptr 0 0) = some (.agg [x0, x1, x2, x3, .p (.int .i64 ver), .p (.int .i64 tr)]) := by
  rw [load_pre a41 s41 W1.at0 (by show 6 ≤ 7; decide)]
  exact congrArg some (mkAgg_own q0)
 have hsl : ∃ i g n, x0 = .sl i g 10 0 n := by cases q0 with | own => exact ⟨_, _, _, rfl⟩
 obtain ⟨i, g, n, rfl⟩ := hsl
 have l2 := hget_cells_lt y2
 have nf2 : flat (hget (h0 ++ [Ob.cells 48 (zTree.cells.map .p), .cells 50 (zEnt.cells.map .p), .cells 52 ((madeV .nils .nils .nils .nils 0 0 0 0).cells.map .p)]) (h0.length + 2)) = false := by rw [y2]; rfl
 have st := store_whole (c := cx) (v := .agg (madeA (.sl i g 10 0 n) x1 x2 x3 ver tr no 0)) s52 y2 (show (AV.agg (madeA (.sl i g 10 0 n) x1 x2 x3 ver tr no 0)).cells? = some (madeA (.sl i g 10 0 n) x1 x2 x3 ver tr no 0) from rfl) rfl rfl
 have W2 : WK (hset (h0 ++ [Ob.cells 48 (zTree.cells.map .p), .cells 50 (zEnt.cells.map .p), .cells 52 ((madeV .nils .nils .nils .nils 0 0 0 0).cells.map .p)]) (h0.length + 2) (.cells 52 (madeA (.sl i g 10 0 n) x1 x2 x3 ver tr no 0))) 136 [.sl i g 10 0 n, x1, x2, x3, .p (.int .i64 ver), .p (.int .i64 tr), .p (.int .i64 0)] (wkC (.own 79 10 pgs) c1 c2 c3 ver tr 0) :=
  ⟨by rw [hget_hset _ _ _ _ l2, if_neg (by omega)]; exact W1.at0, W1.co.imp fun a b q => q.hset nf2⟩
 have lw : load? cx (hset (h0 ++ [Ob.cells 48 (zTree.cells.map .p), .cells 50 (zEnt.cells.map .p), .cells 52 ((madeV .nils .nils .nils .nils 0 0 0 0).cells.map .p)]) (h0.length + 2) (.cells 52 (madeA (.sl i g 10 0 n) x1 x2 x3 ver tr no 0))) 52 (.ptr (h0.length + 2) 0) = some (.agg (madeA (.sl i g 10 0 n) x1 x2 x3 ver tr no 0)) := by
  rw [load_whole (n := 48) a52 s52 (by rw [hget_hset _ _ _ _ l2, if_pos rfl]) rfl]
  rfl
 have u : FU h0 (hset (h0 ++ [Ob.cells 48 (zTree.cells.map .p), .cells 50 (zEnt.cells.map .p), .cells 52 ((madeV .nils .nils .nils .nils 0 0 0 0).cells.map .p)]) (h0.length + 2) (.cells 52 (madeA (.sl i g 10 0 n) x1 x2 x3 ver tr no 0))) :=
  ⟨by rw [hset_length]; simp, fun j h1 h2 h3 => by rw [hget_hset _ _ _ _ l2, if_neg (by omega), hget_appL _ _ h2]; exact h3⟩
 have fin : CoE (hset (h0 ++ [Ob.cells 48 (zTree.cells.map .p), .cells 50 (zEnt.cells.map .p), .cells 52 ((madeV .nils .nils .nils .nils 0 0 0 0).cells.map .p)]) (h0.length + 2) (.cells 52 (madeA (.sl i g 10 0 n) x1 x2 x3 ver tr no 0))) (.ret (.agg (madeA (.sl i g 10 0 n) x1 x2 x3 ver tr no 0))) (toldQ c1 c2 c3 pgs ver tr no) :=
  .val (.agg (madeA_co ((q0.ext _).hset nf2) ((q1.ext _).hset nf2) ((q2.ext _).hset nf2) ((q3.ext _).hset nf2)))
 simp only [sc52, sc52r0, sc52r1, sc52d3_x, sc52r3, ↓rwS, rwT, rwG, Nat.reduceEqDiff, Nat.reduceAdd, reduceCtorEq, Nat.reduceLT, ↓rwC, rwD, rwI, Nat.reduceSub, Nat.reduceLeDiff, a41, a48, a50, a52, hb1, hb2, z52, fb0, fb1, List.append_assoc, List.cons_append, List.nil_append, List.length_append, List.length_cons, List.length_nil, d6, d41, d48, d50, decide_false, decide_true, Bool.not_true, b52, st, lw]
 exact ⟨u, ⟨_, W2⟩, fin⟩
end
def ToldP (cvs : List CV) (no : Int) (qe : QE) : Prop :=
 (∃ c0 c1 c2 c3 ver tr E, E ≠ 0 ∧ cvs = wkC c0 c1 c2 c3 ver tr E ∧ qe = toldE E) ∨ (∃ pgs c1 c2 c3 ver tr, cvs = wkC (.own 79 10 pgs) c1 c2 c3 ver tr 0 ∧ qe = toldQ c1 c2 c3 pgs ver tr no)
def z52c : List AV := (madeV .nils .nils .nils .nils 0 0 0 0).cells.map .p
section
variable {o : Orc} (ho : FreeT o)
include ho
theorem told_cs {h j cs cvs no qe k} (hj : hget h j = .cells 136 cs) (H : L2 (Co1 h) cs cvs) (T : ToldP cvs no qe) (hk : hget h k = .cells 52 z52c) (hkj : k ≠ j) :
  ∃ v M cs', CS cx o (.fn 52 [.ptr j 0, .p zTree, .p zEnt, .p (.int .i64 no)]) h (.ret v) M ∧ store? cx M 52 (.ptr k 0) v = .ws undefA k (.cells 52 cs') ∧ load? cx (hset M k (.cells 52 cs')) 52 (.ptr k 0) = some v ∧ CoE (hset M k (.cells 52 cs')) (.ret v) qe := by
 have hqp : ∀ e qs, qe ≠ .ptr e qs := fun e qs q => by
  rcases T with ⟨c0, c1, c2, c3, ver, tr, E, hE, rfl, rfl⟩ | ⟨pgs, c1, c2, c3, ver, tr, rfl, rfl⟩ <;> cases q
 obtain ⟨e, M, p1, p2, p3, p4, p5, p6⟩ := methK ho (f := 52) (bs := [.p zTree, .p zEnt, .p (.int .i64 no)]) (ps := [.pv zTree, .pv zEnt, .pv (.int .i64 no)]) (qcvs := cvs) (qe := qe) hj H (.cons (.one (.p _)) (.cons (.one (.p _)) (.cons (.one (.p _)) .nil))) hqp (fun h0 cs0 as0 W b3 => by
  obtain ⟨x, y, z, rfl, hx, hy, hz⟩ := l2_3 b3
  have hz' := hz.pv_int
  have hx' := co_agg hx
  have hy' := co_agg hy
  subst hz' hx' hy'
  rcases T with ⟨c0, c1, c2, c3, ver, tr, E, hE, rfl, rfl⟩ | ⟨pgs, c1, c2, c3, ver, tr, rfl, rfl⟩
  ·exact told52_e ho W hE
  ·exact told52_t ho W)
 have y := (p5 k (hget_cells_lt hk) hkj (by rw [hk]; rfl)).trans hk
 have hl := hget_cells_lt y
 have nf : flat (hget M k) = false := by rw [y]; rfl
 rcases T with ⟨c0, c1, c2, c3, ver, tr, E, hE, rfl, rfl⟩ | ⟨pgs, c1, c2, c3, ver, tr, rfl, rfl⟩
 ·obtain ⟨v, rfl, hv⟩ := p3.val_inv
  have hv' := co_agg hv
  subst hv'
  refine ⟨_, M, (madeV .nils .nils .nils .nils 0 0 0 E).cells.map .p, p1, store_whole s52 y rfl rfl rfl, ?_, .val (.one (.p _))⟩
  rw [load_whole (n := 48) a52 s52 (by rw [hget_hset _ _ _ _ hl, if_pos rfl]) rfl, mkAgg_p]; rfl
 ·obtain ⟨v, rfl, hv⟩ := p3.val_inv
  generalize hq : CV.agg (madeC (.own 79 10 pgs) c1 c2 c3 ver tr no 0) = q at hv
  cases hv with
  | one h1 => subst hq; cases h1
  | @agg cs2 qs hc =>
   cases hq
   have hlen : cs2.length = 48 := hc.length.trans rfl
   refine ⟨_, M, cs2, p1, store_whole s52 y rfl hlen rfl, ?_, .val (.agg (hc.imp fun a b q => q.hset nf))⟩
   rw [load_whole (n := 48) a52 s52 (by rw [hget_hset _ _ _ _ hl, if_pos rfl]) hlen]
   cases hc with
   | cons a b => rw [mkAgg_own a]
theorem opn_cs {S : Spc} {cvs : List CV} (open50 : Ct cx o (.fn 50 [.p S.v]) [] (fun e h1 => CoE h1 e (.ptr 136 cvs))) (h : List Ob) : ∃ j cs ext, CS cx o (.fn 50 [.p S.v]) h (.ret (.ptr j 0)) (h ++ ext) ∧ hget (h ++ ext) j = .cells 136 cs ∧ L2 (Co1 (h ++ ext)) cs cvs := by
 obtain ⟨e, ext, h1, h2⟩ := cs_valP (h := h) (ps := [S.v]) open50
 cases h2 with
 | ptr h3 h4 => exact ⟨_, _, ext, h1, h3, h4⟩
theorem al15 {S : Spc} {cvs0 cvs1 : List CV} {no : Int} {qe : QE} (open50 : Ct cx o (.fn 50 [.p S.v]) [] (fun e h1 => CoE h1 e (.ptr 136 cvs0)))
  (take : ∀ h0 cs0, WK h0 136 cs0 cvs0 → Ct cx o (.fn 51 [.ptr 0 0]) h0 (fun e h1 => FU h0 h1 ∧ (∃ cs1, WK h1 136 cs1 cvs1) ∧ CoE h1 e (.val (.pv (.int .i64 no))))) (T : ToldP cvs1 no qe) :
  Ct cx o (.fn 15 [.p S.v]) [] (fun e h1 => CoE h1 e qe) := by
 have zc : (madeV .nils .nils .nils .nils 0 0 0 0).cells.map AV.p = z52c := rfl
 refine ct15 (ho _ _ _ (by decide) (by decide)) rfl ?_
 obtain ⟨j, cs, ext, p1, hj, hL⟩ := opn_cs ho open50 [Ob.cells 41 S.cells, .cells 52 z52c]
 have g1 : hget ([Ob.cells 41 S.cells, .cells 52 z52c] ++ ext) 1 = .cells 52 z52c := rfl
 have hj1 : 1 ≠ j := by rintro rfl; rw [g1] at hj; cases hj
 generalize hM1 : [Ob.cells 41 S.cells, .cells 52 z52c] ++ ext = M1 at *
 obtain ⟨e, M2, p2, ⟨cs1, k1, k2⟩, k3, k4, k5, _⟩ := methK ho (f := 51) (bs := []) (ps := []) (qcvs := cvs1) (qe := .val (.pv (.int .i64 no))) hj hL .nil (fun e qs q => by cases q) (fun h0 cs0 as0 W b3 => by cases b3; exact take h0 cs0 W)
 obtain ⟨v2, rfl, hv2⟩ := k3.val_inv
 have hv2' := hv2.pv_int
 subst hv2'
 have y1 := (k5 1 (hget_cells_lt g1) hj1 (by rw [g1]; rfl)).trans g1
 obtain ⟨v, M3, cs', q1, q2, q3, q4⟩ := told_cs ho k1 k2 T y1 hj1
 simp only [sc15, sc15r0, sc15r1, sc15r2, sc15r3, ↓rwS, rwT, rwG, Nat.reduceEqDiff, Nat.reduceAdd, reduceCtorEq, Nat.reduceLT, hbox, z52, zc, List.cons_append, List.nil_append, List.length_cons, List.length_nil, ldS, callW_ret ext50 p1, hM1, callW_ret ext51 p2, b48, b50, callW_ret ext52 q1, q2, q3]
 exact q4
noncomputable def allocQ (S : Spc) : QE := @ite _ S.Sound (Classical.propDecidable _)
 (match S.fr with
  | x :: l => toldQ (accV ((x :: l).filter fun a => decide (a ≠ x))) (accV (withL S.fs x)) (.pv S.p3) S.pgs S.ver S.tr x
  | [] => if S.pgs.length < 4096 then toldQ (.pv S.p1) (accV (withL S.fs (S.pgs.length : Nat))) (.pv S.p3) (S.pgs ++ [zeroPage]) S.ver S.tr (S.pgs.length : Nat) else toldE 7)
 (toldE 2)
theorem alloc15 {S : Spc} (O : SpcOk S) : Ct cx o (.fn 15 [.p S.v]) [] (fun e h1 => CoE h1 e (allocQ S)) := by
 by_cases hs : S.Sound
 case neg =>
  have : allocQ S = toldE 2 := @if_neg _ (Classical.propDecidable _) hs _ _ _
  rw [this]
  exact al15 ho (no := 0) (open50_f ho O hs) (fun h0 cs0 W => take51_e ho W (by decide)) (.inl ⟨_, _, _, _, _, _, 2, by decide, rfl, rfl⟩)
 have hq : allocQ S = (match S.fr with
  | x :: l => toldQ (accV ((x :: l).filter fun a => decide (a ≠ x))) (accV (withL S.fs x)) (.pv S.p3) S.pgs S.ver S.tr x
  | [] => if S.pgs.length < 4096 then toldQ (.pv S.p1) (accV (withL S.fs (S.pgs.length : Nat))) (.pv S.p3) (S.pgs ++ [zeroPage]) S.ver S.tr (S.pgs.length : Nat) else toldE 7) := @if_pos _ (Classical.propDecidable _) hs _ _ _
 rw [hq]
 have i2 : Inc S.fs := (hs.2.1 1 (by decide)).inc
 have l1 := O.l1
 have l2 := O.l2
 have k1 := O.h1.is
 cases hfr : S.fr with
 | cons x l =>
  simp only
  rw [hfr] at l1 k1
  exact al15 ho (open50_t ho O hs) (fun h0 cs0 W => take51_a ho W (.own _ _) k1 O.h2.is O.h3.is i2 (by simpa using l1) l2) (.inr ⟨_, _, _, _, _, _, rfl, rfl⟩)
 | nil =>
  simp only
  rw [hfr] at k1
  by_cases hp : S.pgs.length < 4096
  ·rw [if_pos hp]
   exact al15 ho (open50_t ho O hs) (fun h0 cs0 W => take51_b ho W k1 O.h2.is O.h3.is i2 hp l2) (.inr ⟨_, _, _, _, _, _, rfl, rfl⟩)
  ·rw [if_neg hp]
   exact al15 ho (no := 0) (open50_t ho O hs) (fun h0 cs0 W => take51_c ho W (.own _ _) k1 (by omega)) (.inl ⟨_, _, _, _, _, _, 7, by decide, rfl, rfl⟩)
theorem sound19 {S : Spc} (O : SpcOk S) : Ct cx o (.fn 19 [.p S.v]) [] (fun e _ => e = .ret (.p (.int .i64 S.soundE))) := by
 refine ct19 (ho _ _ _ (by decide) (by decide)) rfl ?_
 by_cases hs : S.Sound
 ·simp only [sc19r0, sc19r1, sc19r2, sc19r3, sc19, ↓rwS, rwT, rwG, Nat.reduceEqDiff, Nat.reduceAdd, reduceCtorEq, Nat.reduceLT, hbox, List.cons_append, List.nil_append, List.length_cons, List.length_nil, ldS, call59 ho O, Spc.soundB_t hs, Spc.soundE_t hs]
  try rfl
 ·simp only [sc19r0, sc19r1, sc19r2, sc19r3, sc19, ↓rwS, rwT, rwG, Nat.reduceEqDiff, Nat.reduceAdd, reduceCtorEq, Nat.reduceLT, hbox, List.cons_append, List.nil_append, List.length_cons, List.length_nil, ldS, call59 ho O, Spc.soundB_f hs, Spc.soundE_f hs]
  try rfl
end
section
variable {o : Orc} (ho : FreeT o)
include ho
theorem re17 {S : Spc} (O : SpcOk S) {x : Int} {c0 c1 c2 c3 : CV} {ver tr E : Int} {cvs1 : List CV} {qe : QE} (b : Bool) (hb : (b = true ∧ S.relOk x) ∨ (b = false ∧ ¬S.relOk x)) (open50 : Ct cx o (.fn 50 [.p S.v]) [] (fun e h1 => CoE h1 e (.ptr 136 (wkC c0 c1 c2 c3 ver tr E))))
  (rel : ∀ h0 cs0, WK h0 136 cs0 (wkC c0 c1 c2 c3 ver tr (needE b E 1)) → Ct cx o (.fn 58 [.ptr 0 0, .p (.int .i64 x)]) h0 (fun e h1 => FU h0 h1 ∧ (∃ cs1, WK h1 136 cs1 cvs1) ∧ CoE h1 e (.vals []))) (T : ToldP cvs1 0 qe) :
  Ct cx o (.fn 17 [.p S.v, .p (.int .i64 x)]) [] (fun e h1 => CoE h1 e qe) := by
 have zc : (madeV .nils .nils .nils .nils 0 0 0 0).cells.map AV.p = z52c := rfl
 refine ct17 (ho _ _ _ (by decide) (by decide)) rfl ?_
 obtain ⟨j, cs, ext, p1, hj, hL⟩ := opn_cs ho open50 [Ob.cells 41 S.cells, .cells 52 z52c]
 have g0 : hget ([Ob.cells 41 S.cells, .cells 52 z52c] ++ ext) 0 = .cells 41 S.cells := rfl
 have g1 : hget ([Ob.cells 41 S.cells, .cells 52 z52c] ++ ext) 1 = .cells 52 z52c := rfl
 have hj1 : 1 ≠ j := by rintro rfl; rw [g1] at hj; cases hj
 generalize hM1 : [Ob.cells 41 S.cells, .cells 52 z52c] ++ ext = M1 at *
 obtain ⟨M2, p2, ⟨cs1, k1, k2⟩, k3, k4, _⟩ := need_cs ho (b := b) (e := 1) hj hL
 have y1 := (k4 1 (hget_cells_lt g1) hj1 (by rw [g1]; rfl)).trans g1
 obtain ⟨e, M3, p3, ⟨cs2, m1, m2⟩, m3, m4, m5, _⟩ := methK ho (f := 58) (bs := [.p (.int .i64 x)]) (ps := [.pv (.int .i64 x)]) (qcvs := cvs1) (qe := .vals []) k1 k2 (.cons (.one (.p _)) .nil) (fun e qs q => by cases q) (fun h0 cs0 as0 W b3 => by
  obtain ⟨y, rfl, hy⟩ := l2_1 b3
  have hy' := hy.pv_int
  subst hy'
  exact rel h0 cs0 W)
 have hv : ∃ v, e = .ret v := by cases m3; exact ⟨_, rfl⟩
 obtain ⟨v, rfl⟩ := hv
 have y2 := (m5 1 (hget_cells_lt y1) hj1 (by rw [y1]; rfl)).trans y1
 obtain ⟨v, M4, cs', q1, q2, q3, q4⟩ := told_cs ho m1 m2 T y2 hj1
 have d0 : load? cx M1 38 (.ptr 0 0) = some (.p S.p0) := load_one a38 g0 rfl
 have d1 : load? cx M1 39 (.ptr 0 1) = some (.p S.p1) := load_one a39 g0 rfl
 have d3 : load? cx M1 39 (.ptr 0 3) = some (.p S.p3) := load_one a39 g0 rfl
 have e0 : lenW cx M1 38 (.p S.p0) = _ := (O.h0.sl M1).len u38
 have h1' := hs_cs ho (h := M1) (x := x) (Co1.p S.p1) O.h1.is O.l1
 have h3' := hs_cs ho (h := M1) (x := x) (Co1.p S.p3) O.h3.is O.l3
 by_cases r1 : (2 : Int) ≤ x
 case neg =>
  obtain ⟨rfl, _⟩ | ⟨rfl, _⟩ := hb
  ·exact absurd ‹S.relOk x›.1 r1
  simp only [sc17, sc17r0, sc17r1, sc17r2, sc17r3, sc17r4, ↓rwS, rwT, rwG, Nat.reduceEqDiff, Nat.reduceAdd, reduceCtorEq, Nat.reduceLT, hbox, z52, zc, List.cons_append, List.nil_append, List.length_cons, List.length_nil, ldS, callW_ret ext50 p1, hM1, r1, decide_false, callW_ret ext56 p2, callW_ret ext58 p3, b48, b50, callW_ret ext52 q1, q2, q3]
  exact q4
 by_cases r2 : x < (S.pgs.length : Nat)
 case neg =>
  obtain ⟨rfl, _⟩ | ⟨rfl, _⟩ := hb
  ·exact absurd ‹S.relOk x›.2.1 r2
  simp only [sc17, sc17r0, sc17r1, sc17r2, sc17r3, sc17r4, ↓rwS, rwT, rwG, Nat.reduceEqDiff, Nat.reduceAdd, reduceCtorEq, Nat.reduceLT, hbox, z52, zc, List.cons_append, List.nil_append, List.length_cons, List.length_nil, ldS, callW_ret ext50 p1, hM1, fa0, d0, e0, r1, r2, decide_true, decide_false, callW_ret ext56 p2, callW_ret ext58 p3, b48, b50, callW_ret ext52 q1, q2, q3]
  exact q4
 by_cases r3 : x ∈ S.fr
 case pos =>
  obtain ⟨rfl, _⟩ | ⟨rfl, _⟩ := hb
  ·exact absurd r3 ‹S.relOk x›.2.2.1
  simp only [sc17, sc17r0, sc17r1, sc17r2, sc17r3, sc17r4, ↓rwS, rwT, rwG, Nat.reduceEqDiff, Nat.reduceAdd, reduceCtorEq, Nat.reduceLT, hbox, z52, zc, List.cons_append, List.nil_append, List.length_cons, List.length_nil, ldS, callW_ret ext50 p1, hM1, fa0, fa1, d0, d1, e0, callW_ret ext57 h1', r1, r2, r3, decide_true, decide_false, callW_ret ext56 p2, callW_ret ext58 p3, b48, b50, callW_ret ext52 q1, q2, q3]
  exact q4
 by_cases r4 : x ∈ S.gn
 case pos =>
  obtain ⟨rfl, _⟩ | ⟨rfl, _⟩ := hb
  ·exact absurd r4 ‹S.relOk x›.2.2.2
  simp only [sc17, sc17r0, sc17r1, sc17r2, sc17r3, sc17r4, ↓rwS, rwT, rwG, Nat.reduceEqDiff, Nat.reduceAdd, reduceCtorEq, Nat.reduceLT, hbox, z52, zc, List.cons_append, List.nil_append, List.length_cons, List.length_nil, ldS, callW_ret ext50 p1, hM1, fa0, fa1, fa3, d0, d1, d3, e0, callW_ret ext57 h1', callW_ret ext57 h3', r1, r2, r3, r4, decide_true, decide_false, callW_ret ext56 p2, callW_ret ext58 p3, b48, b50, callW_ret ext52 q1, q2, q3]
  exact q4
 obtain ⟨rfl, _⟩ | ⟨rfl, hn⟩ := hb
 case inr => exact absurd ⟨r1, r2, r3, r4⟩ hn
 simp only [sc17, sc17r0, sc17r1, sc17r2, sc17r3, sc17r4, ↓rwS, rwT, rwG, Nat.reduceEqDiff, Nat.reduceAdd, reduceCtorEq, Nat.reduceLT, hbox, z52, zc, List.cons_append, List.nil_append, List.length_cons, List.length_nil, ldS, callW_ret ext50 p1, hM1, fa0, fa1, fa3, d0, d1, d3, e0, callW_ret ext57 h1', callW_ret ext57 h3', r1, r2, r3, r4, decide_true, decide_false, callW_ret ext56 p2, callW_ret ext58 p3, b48, b50, callW_ret ext52 q1, q2, q3]
 exact q4
noncomputable def relQ (S : Spc) (x : Int) : QE := @ite _ S.Sound (Classical.propDecidable _)
 (@ite _ (S.relOk x) (Classical.propDecidable _)
  (if x ∈ S.fs then toldQ (accV (withL S.fr x)) (accV (S.fs.filter fun a => decide (a ≠ x))) (.pv S.p3) (S.pgs.set x.toNat zeroPage) S.ver S.tr 0
   else toldQ (.pv S.p1) (.pv S.p2) (accV (withL S.gn x)) S.pgs S.ver S.tr 0)
  (toldE 1))
 (toldE 2)
theorem rel17 {S : Spc} (O : SpcOk S) (hpg : PgOk S.pgs) (x : Int) : Ct cx o (.fn 17 [.p S.v, .p (.int .i64 x)]) [] (fun e h1 => CoE h1 e (relQ S x)) := by
 by_cases hs : S.Sound
 case neg =>
  have : relQ S x = toldE 2 := @if_neg _ (Classical.propDecidable _) hs _ _ _
  rw [this]
  by_cases hr : S.relOk x
  ·exact re17 ho O true (.inl ⟨rfl, hr⟩) (open50_f ho O hs) (fun h0 cs0 W => rel58_e ho W (by decide)) (.inl ⟨_, _, _, _, _, _, 2, by decide, rfl, rfl⟩)
  ·exact re17 ho O false (.inr ⟨rfl, hr⟩) (open50_f ho O hs) (fun h0 cs0 W => rel58_e ho W (by decide)) (.inl ⟨_, _, _, _, _, _, 2, by decide, rfl, rfl⟩)
 have i1 : Inc S.fr := (hs.2.1 0 (by decide)).inc
 have i3 : Inc S.gn := (hs.2.1 2 (by decide)).inc
 have l1 := O.l1
 have l2 := O.l2
 have l3 := O.l3
 by_cases hr : S.relOk x
 case neg =>
  have : relQ S x = toldE 1 := (@if_pos _ (Classical.propDecidable _) hs _ _ _).trans (@if_neg _ (Classical.propDecidable _) hr _ _ _)
  rw [this]
  exact re17 ho O false (.inr ⟨rfl, hr⟩) (open50_t ho O hs) (fun h0 cs0 W => rel58_e ho W (by decide)) (.inl ⟨_, _, _, _, _, _, 1, by decide, rfl, rfl⟩)
 have hq : relQ S x = (if x ∈ S.fs then toldQ (accV (withL S.fr x)) (accV (S.fs.filter fun a => decide (a ≠ x))) (.pv S.p3) (S.pgs.set x.toNat zeroPage) S.ver S.tr 0
   else toldQ (.pv S.p1) (.pv S.p2) (accV (withL S.gn x)) S.pgs S.ver S.tr 0) := (@if_pos _ (Classical.propDecidable _) hs _ _ _).trans (@if_pos _ (Classical.propDecidable _) hr _ _ _)
 rw [hq]
 by_cases hx : x ∈ S.fs
 ·rw [if_pos hx]
  refine re17 ho O true (.inl ⟨rfl, hr⟩) (open50_t ho O hs) (fun h0 cs0 W => ?_) (.inr ⟨_, _, _, _, _, _, rfl, rfl⟩)
  obtain ⟨r1, r2, r3, r4⟩ := hr
  have hxe : ((x.toNat : Nat) : Int) = x := by omega
  have hpe : S.pgs[x.toNat]? = some (S.pgs[x.toNat]'(by omega)) := List.getElem?_eq_getElem (by omega)
  obtain ⟨l, hl, hll⟩ := hpg _ (List.mem_of_getElem? hpe)
  rw [hl] at hpe
  have := rel58_b ho (x := x.toNat) W O.h1.is O.h2.is O.h3.is i1 l1 l2 (by rw [hxe]; exact hx) hpe hll
  rw [hxe] at this
  exact this
 ·rw [if_neg hx]
  exact re17 ho O true (.inl ⟨rfl, hr⟩) (open50_t ho O hs) (fun h0 cs0 W => rel58_a ho W O.h2.is O.h3.is i3 l2 l3 hx) (.inr ⟨_, _, _, _, _, _, rfl, rfl⟩)
end
end Go.Proofs

/- What is proved: the spaces' law returns true of any space and any numbers ('law4'). Conditions: the examples come to true. -/
import Derived.Test.YtjajjhfbdfdfnaaGreatSC09
set_option linter.all false
set_option maxRecDepth 100000
namespace Go.Proofs
open Go Go.Ai
structure SpN where
 pgs : List PV
 fr : List Int
 fs : List Int
 gn : List Int
 ver : Int
 tr : Int
structure SpN.Ok (N : SpN) : Prop where
 pg : ∀ p ∈ N.pgs, PgTy p
 l0 : N.pgs.length < 1000000
 l1 : N.fr.length < 1000000
 l2 : N.fs.length < 1000000
 l3 : N.gn.length < 1000000
inductive SpcC : CV → SpN → Prop
 | full {c1 c2 c3 N} : IsS 1 c1 (ints N.fr) → IsS 1 c2 (ints N.fs) → IsS 1 c3 (ints N.gn) → SpcC (.agg [.own 79 10 N.pgs, c1, c2, c3, .pv (.int .i64 N.ver), .pv (.int .i64 N.tr)]) N
 | zero : SpcC (.pv zeroSpace) ⟨[], [], [], [], 0, 0⟩
structure SpX (h : List Ob) (N : SpN) (x0 x1 x2 x3 : AV) : Prop where
 s0 : Sl h 10 x0 N.pgs
 s1 : Sl h 1 x1 (ints N.fr)
 s2 : Sl h 1 x2 (ints N.fs)
 s3 : Sl h 1 x3 (ints N.gn)
def spA (N : SpN) (x0 x1 x2 x3 : AV) : List AV := [x0, x1, x2, x3, .p (.int .i64 N.ver), .p (.int .i64 N.tr)]
theorem SpX.ext {h N x0 x1 x2 x3} (X : SpX h N x0 x1 x2 x3) (e : List Ob) : SpX (h ++ e) N x0 x1 x2 x3 := ⟨X.s0.ext e, X.s1.ext e, X.s2.ext e, X.s3.ext e⟩
theorem spc_box {h v c N} (H : Co h v c) (S : SpcC c N) : ∃ x0 x1 x2 x3, (∀ hh, boxW hh 41 v = .wn (.ptr hh.length 0) (.cells 41 (spA N x0 x1 x2 x3))) ∧ mkAgg (spA N x0 x1 x2 x3) = v ∧ v.cells? = some (spA N x0 x1 x2 x3) ∧ SpX h N x0 x1 x2 x3 := by
 cases S with
 | @full c1 c2 c3 N k1 k2 k3 =>
  generalize hq : CV.agg [.own 79 10 N.pgs, c1, c2, c3, .pv (.int .i64 N.ver), .pv (.int .i64 N.tr)] = q at H
  cases H with
  | one h1 => subst hq; cases h1
  | agg hc =>
   cases hq
   obtain ⟨x0, x1, x2, x3, x4, x5, rfl, q0, q1, q2, q3, q4, q5⟩ := l2_6 hc
   have q4' := co1_int q4
   have q5' := co1_int q5
   subst q4' q5'
   exact ⟨x0, x1, x2, x3, fun hh => rfl, mkAgg_own q0, rfl, q0.sl' (.own _ _), q1.sl' k1, q2.sl' k2, q3.sl' k3⟩
 | zero =>
  have hv : v = .p zeroSpace := co_agg H
  subst hv
  exact ⟨.p .nils, .p .nils, .p .nils, .p .nils, fun hh => rfl, rfl, rfl, .nil, .nil, .nil, .nil⟩
theorem sl_cs2 {sz : Nat} {h a b l} (Ha : Sl h sz a l) (Hb : Sl h sz b l) : ∃ c1 c2, L2 (Co h) [a, b] [c1, c2] ∧ IsS sz c1 l ∧ IsS sz c2 l := by
 obtain ⟨c1, p1, p2⟩ := Ha.co
 obtain ⟨c2, q1, q2⟩ := Hb.co
 exact ⟨c1, c2, .cons (.one p1) (.cons (.one q1) .nil), p2, q2⟩
section
variable {o : Orc} (ho : FreeT o)
include ho
theorem cs38 {h a b l} (Ha : Sl h 1 a (ints l)) (Hb : Sl h 1 b (ints l)) (hl : l.length < 9223372036854775808) : CS cx o (.fn 38 [a, b]) h (.ret (.p (.bool true))) h := by
 obtain ⟨c1, c2, H, k1, k2⟩ := sl_cs2 Ha Hb
 exact cs_pure (c := cx) (o := o) (f := 38) H rfl fun h0 as0 H0 => by
  obtain ⟨x, y, rfl, hx, hy⟩ := l2_2 H0
  obtain ⟨e, h', hr, a, b⟩ := same38 ho (hx.sl' k1) (hy.sl' k2) (.inl rfl) hl
  exact ⟨e, h', hr, b, [], by rw [a]; simp⟩
theorem same111 {p : PV} (H : PgTy p) : Ct cx o (.fn 111 [.p p, .p p]) [] (fun e _ => e = .ret (.p (.bool true))) := by
 refine ct111 (ho _ _ _ (by decide) (by decide)) rfl ?_
 cases H with
 | mk i0 i1 i2 i3 i4 b p i7 s q es fs hp hq he hf le lf ls =>
  have hbox : ∀ hh : List Ob, boxW hh 79 (.p (.agg [.int .i64 i0, .int .i64 i1, .int .i64 i2, .int .i64 i3, .int .i64 i4, .bool b, p, .int .i64 i7, .str s, q])) = .wn (.ptr hh.length 0) (.cells 79 [.p (.int .i64 i0), .p (.int .i64 i1), .p (.int .i64 i2), .p (.int .i64 i3), .p (.int .i64 i4), .p (.bool b), .p p, .p (.int .i64 i7), .p (.str s), .p q]) := fun hh => rfl
  have f0 : ∀ k, fieldAddr? cx 79 (.ptr k 0) 0 = some (.ptr k 0) := fun k => fieldAddr_ptr (m := 0) f79_0 s3
  have f1 : ∀ k, fieldAddr? cx 79 (.ptr k 0) 1 = some (.ptr k 1) := fun k => fieldAddr_ptr (m := 0) f79_1 s3
  have f2 : ∀ k, fieldAddr? cx 79 (.ptr k 0) 2 = some (.ptr k 2) := fun k => fieldAddr_ptr (m := 0) f79_2 s3
  have f3 : ∀ k, fieldAddr? cx 79 (.ptr k 0) 3 = some (.ptr k 3) := fun k => fieldAddr_ptr (m := 0) f79_3 s3
  have f4 : ∀ k, fieldAddr? cx 79 (.ptr k 0) 4 = some (.ptr k 4) := fun k => fieldAddr_ptr (m := 0) f79_4 s3
  have f5 : ∀ k, fieldAddr? cx 79 (.ptr k 0) 5 = some (.ptr k 5) := fun k => fieldAddr_ptr (m := 0) f79_5 s4
  have f6 : ∀ k, fieldAddr? cx 79 (.ptr k 0) 6 = some (.ptr k 6) := fun k => fieldAddr_ptr (m := 0) f79_6 s76
  have f7 : ∀ k, fieldAddr? cx 79 (.ptr k 0) 7 = some (.ptr k 7) := fun k => fieldAddr_ptr (m := 0) f79_7 s3
  have f8 : ∀ k, fieldAddr? cx 79 (.ptr k 0) 8 = some (.ptr k 8) := fun k => fieldAddr_ptr (m := 0) f79_8 s9
  have f9 : ∀ k, fieldAddr? cx 79 (.ptr k 0) 9 = some (.ptr k 9) := fun k => fieldAddr_ptr (m := 0) f79_9 s77
  generalize hC : [AV.p (.int .i64 i0), .p (.int .i64 i1), .p (.int .i64 i2), .p (.int .i64 i3), .p (.int .i64 i4), .p (.bool b), .p p, .p (.int .i64 i7), .p (.str s), .p q] = C at hbox
  have ld : ∀ k, k < 2 → (load? cx [.cells 79 C, .cells 79 C] 3 (.ptr k 0) = some (.p (.int .i64 i0)) ∧ load? cx [.cells 79 C, .cells 79 C] 3 (.ptr k 1) = some (.p (.int .i64 i1)) ∧ load? cx [.cells 79 C, .cells 79 C] 3 (.ptr k 2) = some (.p (.int .i64 i2)) ∧ load? cx [.cells 79 C, .cells 79 C] 3 (.ptr k 3) = some (.p (.int .i64 i3)) ∧ load? cx [.cells 79 C, .cells 79 C] 3 (.ptr k 4) = some (.p (.int .i64 i4)) ∧
    load? cx [.cells 79 C, .cells 79 C] 4 (.ptr k 5) = some (.p (.bool b)) ∧ load? cx [.cells 79 C, .cells 79 C] 76 (.ptr k 6) = some (.p p) ∧ load? cx [.cells 79 C, .cells 79 C] 3 (.ptr k 7) = some (.p (.int .i64 i7)) ∧ load? cx [.cells 79 C, .cells 79 C] 9 (.ptr k 8) = some (.p (.str s)) ∧ load? cx [.cells 79 C, .cells 79 C] 77 (.ptr k 9) = some (.p q)) := fun k hk => by
   have y : hget [Ob.cells 79 C, .cells 79 C] k = .cells 79 C := by rcases (by omega : k = 0 ∨ k = 1) with rfl | rfl <;> rfl
   subst hC
   exact ⟨load_one a3 y rfl, load_one a3 y rfl, load_one a3 y rfl, load_one a3 y rfl, load_one a3 y rfl, load_one a4 y rfl, load_one a76 y rfl, load_one a3 y rfl, load_one a9 y rfl, load_one a77 y rfl⟩
  obtain ⟨a0, a1, a2, a3', a4', a5', a6, a7, a8, a9'⟩ := ld 0 (by decide)
  obtain ⟨b0, b1, b2, b3, b4, b5, b6, b7, b8, b9⟩ := ld 1 (by decide)
  have hnb : ∀ q' : Bool, bin3 .neq cx 4 q' (.p (.bool b)) (.p (.bool b)) = .w (.p (.bool false)) := fun q' => by cases b <;> kernel_rfl
  have c1 : ∀ {h dst t d r K Q}, callW cx o dst t h d r (some (.fn 148 [.p p, .p p])) K Q = K (put dst (.p (.bool true)) t) h d r := callW_ret ext148 (cs_p (f := 148) (ps := [p, p]) rfl (same148 ho hp he le))
  have c2 : ∀ {h dst t d r K Q}, callW cx o dst t h d r (some (.fn 149 [.p q, .p q])) K Q = K (put dst (.p (.bool true)) t) h d r := callW_ret ext149 (cs_p (f := 149) (ps := [q, q]) rfl (same149 ho hq hf lf))
  simp only [sc111r0, sc111r1, sc111r2, sc111r3, sc111, ↓rwS, rwT, rwG, Nat.reduceEqDiff, Nat.reduceAdd, reduceCtorEq, Nat.reduceLT, hbox, List.cons_append, List.nil_append, List.length_cons, List.length_nil, f0, f1, f2, f3, f4, f5, f6, f7, f8, f9, a0, a1, a2, a3', a4', a5', a6, a7, a8, a9', b0, b1, b2, b3, b4, b5, b6, b7, b8, b9, decide_true, hnb, c1, c2]
  try (first | rfl | trivial)
theorem same60 {h a b pgs} (Ha : Sl h 10 a pgs) (Hb : Sl h 10 b pgs) (hp : ∀ p ∈ pgs, PgTy p) (hl : pgs.length < 1000000) : Ct cx o (.fn 60 [a, b]) h (fun e h' => h' = h ∧ e = .ret (.p (.bool true))) := by
 refine ct60 (ho _ _ _ (by decide) (by decide)) rfl ?_
 simp only [sc60r0, sc60r1, sc60r2, sc60r3, sc60r4, sc60r5, sc60d5_x, sc60r6, sc60r7, sc60r9, sc60, ↓rwS, rwT, rwG, Nat.reduceEqDiff, Nat.reduceAdd, reduceCtorEq, Nat.reduceLT, Ha.len u38, Hb.len u38, decide_true, Bool.not_true]
 refine xC_loop (fun m t h' d r => ∃ k : Nat, m = pgs.length - k ∧ k ≤ pgs.length ∧ h = h' ∧ d = [] ∧ r = none ∧ t.get 0 = a ∧ t.get 1 = b ∧ t.get 5 = .p (.int .i64 (k : Int))) pgs.length ?_ ?_
 ·refine ⟨0, rfl, by omega, rfl, rfl, rfl, ?_⟩
  simp only [↓rwA, rwB, rwG, Nat.reduceEqDiff, Nat.reduceAdd, reduceCtorEq, Nat.reduceLT, true_and]
  all_goals (first | rfl | exact ⟨rfl, rfl⟩ | exact trivial)
 ·rintro m t h' d r ⟨k, rfl, hk, rfl, rfl, rfl, t0, t1, t5⟩
  by_cases hlt : (k : Int) < ((pgs.length : Nat) : Int)
  ·have hkl : k < pgs.length := by omega
   have hP := hp _ (getD_mem hkl)
   have ja : indexAddr? cx 38 a (.p (.int .i64 (k : Int))) = some (rdS a k) := by
    rw [Ha.at (sz := 9) u38 s79 (by omega) (by omega), Int.toNat_natCast]
   have jb : indexAddr? cx 38 b (.p (.int .i64 (k : Int))) = some (rdS b k) := by
    rw [Hb.at (sz := 9) u38 s79 (by omega) (by omega), Int.toNat_natCast]
   have jd : load? cx h 79 (rdS a k) = some (.p (pgs.getD k .nilp)) := Ha.load hkl hP.eok
   have je : load? cx h 79 (rdS b k) = some (.p (pgs.getD k .nilp)) := Hb.load hkl hP.eok
   have c1 : ∀ {h dst t d r K Q}, callW cx o dst t h d r (some (.fn 111 [.p (pgs.getD k .nilp), .p (pgs.getD k .nilp)])) K Q = K (put dst (.p (.bool true)) t) h d r := callW_ret ext111 (cs_p (f := 111) (ps := [pgs.getD k .nilp, pgs.getD k .nilp]) rfl (same111 ho hP))
   have w1 := one63 (show k + 1 < 9223372036854775808 by omega)
   simp only [sc60r0, sc60r1, sc60r2, sc60r3, sc60r4, sc60r5, sc60d5_x, sc60r6, sc60r7, sc60l8, sc60r9, sc60, ↓rwS, rwT, rwG, Nat.reduceEqDiff, Nat.reduceAdd, reduceCtorEq, Nat.reduceLT, ↓rwC, rwD, rwI, Nat.reduceSub, Nat.reduceLeDiff, t0, t1, t5, Ha.len u38, hlt, decide_true, ja, jb, jd, je, c1, Bool.not_true, w1]
   refine ⟨_, ?_, k + 1, rfl, by omega, ?_⟩
   all_goals (first | omega | rfl | exact ⟨rfl, rfl⟩ | exact trivial | exact ⟨trivial, trivial, rfl⟩)
  ·simp only [sc60r0, sc60r1, sc60r2, sc60r3, sc60r4, sc60r5, sc60d5_x, sc60r6, sc60r7, sc60l8, sc60r9, sc60, ↓rwS, rwT, rwG, Nat.reduceEqDiff, Nat.reduceAdd, reduceCtorEq, Nat.reduceLT, t0, t1, t5, Ha.len u38, hlt, decide_false]
   first | rfl | exact ⟨rfl, rfl⟩ | exact ⟨trivial, rfl⟩ | trivial
theorem cs60 {h a b pgs} (Ha : Sl h 10 a pgs) (Hb : Sl h 10 b pgs) (hp : ∀ p ∈ pgs, PgTy p) (hl : pgs.length < 1000000) : CS cx o (.fn 60 [a, b]) h (.ret (.p (.bool true))) h := by
 obtain ⟨c1, c2, H, k1, k2⟩ := sl_cs2 Ha Hb
 exact cs_pure (c := cx) (o := o) (f := 60) H rfl fun h0 as0 H0 => by
  obtain ⟨x, y, rfl, hx, hy⟩ := l2_2 H0
  obtain ⟨e, h', hr, a, b⟩ := same60 ho (hx.sl' k1) (hy.sl' k2) hp hl
  exact ⟨e, h', hr, b, [], by rw [a]; simp⟩
theorem same20 {h a b ca cb N} (Ha : Co h a ca) (Hb : Co h b cb) (Ka : SpcC ca N) (Kb : SpcC cb N) (O : N.Ok) : Ct cx o (.fn 20 [a, b]) h (fun e h' => e = .ret (.p (.bool true)) ∧ ∃ ext, h' = h ++ ext) := by
 refine ct20 (ho _ _ _ (by decide) (by decide)) rfl ?_
 obtain ⟨x0, x1, x2, x3, bx, _, _, X⟩ := spc_box Ha Ka
 obtain ⟨y0, y1, y2, y3, by', _, _, Y⟩ := spc_box Hb Kb
 have X := X.ext [.cells 41 (spA N x0 x1 x2 x3), .cells 41 (spA N y0 y1 y2 y3)]
 have Y := Y.ext [.cells 41 (spA N x0 x1 x2 x3), .cells 41 (spA N y0 y1 y2 y3)]
 have g0 : hget (h ++ [.cells 41 (spA N x0 x1 x2 x3), .cells 41 (spA N y0 y1 y2 y3)]) h.length = .cells 41 (spA N x0 x1 x2 x3) := by
  rw [hget_eq, List.getElem?_append_right (by omega), Nat.sub_self]; rfl
 have g1 : hget (h ++ [.cells 41 (spA N x0 x1 x2 x3), .cells 41 (spA N y0 y1 y2 y3)]) (h.length + 1) = .cells 41 (spA N y0 y1 y2 y3) := by
  rw [hget_eq, List.getElem?_append_right (by omega), show h.length + 1 - h.length = 1 by omega]; rfl
 have f0 : ∀ k, fieldAddr? cx 41 (.ptr k 0) 0 = some (.ptr k 0) := fun k => fieldAddr_ptr (m := 0) f41_0 s38
 have f1 : ∀ k, fieldAddr? cx 41 (.ptr k 0) 1 = some (.ptr k 1) := fun k => fieldAddr_ptr (m := 0) f41_1 s39
 have f2 : ∀ k, fieldAddr? cx 41 (.ptr k 0) 2 = some (.ptr k 2) := fun k => fieldAddr_ptr (m := 0) f41_2 s39
 have f3 : ∀ k, fieldAddr? cx 41 (.ptr k 0) 3 = some (.ptr k 3) := fun k => fieldAddr_ptr (m := 0) f41_3 s39
 have f4 : ∀ k, fieldAddr? cx 41 (.ptr k 0) 4 = some (.ptr k 4) := fun k => fieldAddr_ptr (m := 0) f41_4 s3
 have f5 : ∀ k, fieldAddr? cx 41 (.ptr k 0) 5 = some (.ptr k 5) := fun k => fieldAddr_ptr (m := 0) f41_5 s3
 generalize hM : h ++ [.cells 41 (spA N x0 x1 x2 x3), .cells 41 (spA N y0 y1 y2 y3)] = M at *
 have d0 : load? cx M 38 (.ptr h.length 0) = some x0 := load_one a38 g0 rfl
 have d1 : load? cx M 39 (.ptr h.length 1) = some x1 := load_one a39 g0 rfl
 have d2 : load? cx M 39 (.ptr h.length 2) = some x2 := load_one a39 g0 rfl
 have d3 : load? cx M 39 (.ptr h.length 3) = some x3 := load_one a39 g0 rfl
 have d4 : load? cx M 3 (.ptr h.length 4) = some (.p (.int .i64 N.ver)) := load_one a3 g0 rfl
 have d5 : load? cx M 3 (.ptr h.length 5) = some (.p (.int .i64 N.tr)) := load_one a3 g0 rfl
 have e0 : load? cx M 38 (.ptr (h.length + 1) 0) = some y0 := load_one a38 g1 rfl
 have e1 : load? cx M 39 (.ptr (h.length + 1) 1) = some y1 := load_one a39 g1 rfl
 have e2 : load? cx M 39 (.ptr (h.length + 1) 2) = some y2 := load_one a39 g1 rfl
 have e3 : load? cx M 39 (.ptr (h.length + 1) 3) = some y3 := load_one a39 g1 rfl
 have e4 : load? cx M 3 (.ptr (h.length + 1) 4) = some (.p (.int .i64 N.ver)) := load_one a3 g1 rfl
 have e5 : load? cx M 3 (.ptr (h.length + 1) 5) = some (.p (.int .i64 N.tr)) := load_one a3 g1 rfl
 have l1 := O.l1
 have l2 := O.l2
 have l3 := O.l3
 have c1 := cs38 ho X.s1 Y.s1 (by omega)
 have c2 := cs38 ho X.s2 Y.s2 (by omega)
 have c3 := cs38 ho X.s3 Y.s3 (by omega)
 have c0 := cs60 ho X.s0 Y.s0 O.pg O.l0
 simp only [sc20r0, sc20r1, sc20, ↓rwS, rwT, rwG, Nat.reduceEqDiff, Nat.reduceAdd, reduceCtorEq, Nat.reduceLT, bx, by', List.append_assoc, List.cons_append, List.nil_append, List.length_append, List.length_cons, List.length_nil, hM, f0, f1, f2, f3, f4, f5, d0, d1, d2, d3, d4, d5, e0, e1, e2, e3, e4, e5, decide_true, callW_ret ext38 c1, callW_ret ext38 c2, callW_ret ext38 c3, callW_ret ext60 c0, true_and]
 exact ⟨_, hM.symm⟩
theorem cs20 {h a b ca cb N} (Ha : Co h a ca) (Hb : Co h b cb) (Ka : SpcC ca N) (Kb : SpcC cb N) (O : N.Ok) : CS cx o (.fn 20 [a, b]) h (.ret (.p (.bool true))) h :=
 cs_pure (c := cx) (o := o) (f := 20) (.cons Ha (.cons Hb .nil)) rfl fun h0 as0 H0 => by
  obtain ⟨x, y, rfl, hx, hy⟩ := l2_2 H0
  exact same20 ho hx hy Ka Kb O
end
theorem load_at {c : Ctx} {h : List Ob} {ty e : TypeId} {n i off : Nat} {cs : List AV} (ha : aggT? c ty = some true) (hs : sizeOf? c ty = some n) (hi : hget h i = .cells e cs) (h2 : off + n ≤ cs.length) : load? c h ty (.ptr i off) = some (mkAgg ((cs.drop off).take n)) := by
 show loadPtr c h ty i off = _
 unfold loadPtr
 simp only [hi]
 unfold partA?
 simp only [ha, hs]
 unfold subK
 rw [Nat.ble_eq_true_of_le (by omega)]
 simp only [cond, lnf_eq]
inductive MadeC : CV → SpN → Int → Int → Prop
 | full {c1 c2 c3 N} (no : Int) : IsS 1 c1 (ints N.fr) → IsS 1 c2 (ints N.fs) → IsS 1 c3 (ints N.gn) → MadeC (.agg (madeC (.own 79 10 N.pgs) c1 c2 c3 N.ver N.tr no 0)) N no 0
 | err (E : Int) : MadeC (.pv (madeV .nils .nils .nils .nils 0 0 0 E)) ⟨[], [], [], [], 0, 0⟩ 0 E
theorem MadeC.of {N : SpN} {c1 c2 c3 : CV} {pgs : List PV} {ver tr no : Int} (h1 : N.pgs = pgs) (h2 : N.ver = ver) (h3 : N.tr = tr) (k1 : IsS 1 c1 (ints N.fr)) (k2 : IsS 1 c2 (ints N.fs)) (k3 : IsS 1 c3 (ints N.gn)) : MadeC (.agg (madeC (.own 79 10 pgs) c1 c2 c3 ver tr no 0)) N no 0 := by
 subst h1 h2 h3
 exact .full no k1 k2 k3
theorem SpcC.of {N : SpN} {c1 c2 c3 : CV} {pgs : List PV} {ver tr : Int} (h1 : N.pgs = pgs) (h2 : N.ver = ver) (h3 : N.tr = tr) (k1 : IsS 1 c1 (ints N.fr)) (k2 : IsS 1 c2 (ints N.fs)) (k3 : IsS 1 c3 (ints N.gn)) : SpcC (.agg [.own 79 10 pgs, c1, c2, c3, .pv (.int .i64 ver), .pv (.int .i64 tr)]) N := by
 subst h1 h2 h3
 exact .full k1 k2 k3
theorem l2_madeC {h : List Ob} {cs : List AV} {c0 c1 c2 c3 v t no E} (H : L2 (Co1 h) cs (madeC c0 c1 c2 c3 v t no E)) : ∃ x0 x1 x2 x3, cs = madeA x0 x1 x2 x3 v t no E ∧ Co1 h x0 c0 ∧ Co1 h x1 c1 ∧ Co1 h x2 c2 ∧ Co1 h x3 c3 := by
 have pures : ∀ (l : List PV) (m : List CV) (cs : List AV), (∀ p ∈ l, (∀ sz xs, p ≠ .vec sz xs)) → L2 (Co1 h) cs (l.map .pv ++ m) → ∃ cs', cs = l.map .p ++ cs' ∧ L2 (Co1 h) cs' m := by
  intro l
  induction l with
  | nil => intro m cs _ H; exact ⟨cs, rfl, H⟩
  | cons a l ih =>
   intro m cs hp H
   cases H with
   | cons h1 h2 =>
    obtain ⟨cs', rfl, h3⟩ := ih _ _ (fun p q => hp p (List.mem_cons_of_mem _ q)) h2
    refine ⟨cs', ?_, h3⟩
    have := hp a List.mem_cons_self
    cases h1 with
    | p => rfl
    | full sz xs => exact absurd rfl (this sz xs)
    | sl => exact absurd rfl (this _ _)
 cases H with
 | cons h0 H => cases H with
  | cons h1 H => cases H with
   | cons h2 H => cases H with
    | cons h3 H =>
     obtain ⟨cs', rfl, h4⟩ := pures ([.int .i64 v, .int .i64 t] ++ zTree.cells ++ zEnt.cells ++ [.int .i64 no, .int .i64 E]) [] _ (by
      intro p hp sz xs q
      subst q
      simp [zTree, zEnt, PV.cells, List.mem_replicate] at hp) (by rw [List.append_nil]; exact H)
     cases h4
     exact ⟨_, _, _, _, rfl, h0, h1, h2, h3⟩
theorem made_box {h m cm N no e} (H : Co h m cm) (K : MadeC cm N no e) : ∃ x0 x1 x2 x3, (∀ hh, boxW hh 52 m = .wn (.ptr hh.length 0) (.cells 52 (madeA x0 x1 x2 x3 N.ver N.tr no e))) ∧ m.cells? = some (madeA x0 x1 x2 x3 N.ver N.tr no e) ∧ mkAgg (madeA x0 x1 x2 x3 N.ver N.tr no e) = m ∧ ∃ cs, Co h (mkAgg (spA N x0 x1 x2 x3)) cs ∧ SpcC cs N := by
 cases K with
 | @full c1 c2 c3 N no k1 k2 k3 =>
  generalize hq : CV.agg (madeC (.own 79 10 N.pgs) c1 c2 c3 N.ver N.tr no 0) = q at H
  cases H with
  | one h1 => subst hq; cases h1
  | agg hc =>
   cases hq
   obtain ⟨x0, x1, x2, x3, rfl, q0, q1, q2, q3⟩ := l2_madeC hc
   have hs := mkAgg_own (l := [x1, x2, x3, .p (.int .i64 N.ver), .p (.int .i64 N.tr)]) q0
   refine ⟨x0, x1, x2, x3, fun hh => rfl, rfl, mkAgg_own q0, _, ?_, .full k1 k2 k3⟩
   have : mkAgg (spA N x0 x1 x2 x3) = .agg [x0, x1, x2, x3, .p (.int .i64 N.ver), .p (.int .i64 N.tr)] := hs
   rw [this]
   exact .agg (.cons q0 (.cons q1 (.cons q2 (.cons q3 (.cons (.p _) (.cons (.p _) .nil))))))
 | err E =>
  have hv : m = .p (madeV .nils .nils .nils .nils 0 0 0 e) := co_agg H
  subst hv
  exact ⟨.p .nils, .p .nils, .p .nils, .p .nils, fun hh => rfl, rfl, rfl, _, .one (.p zeroSpace), .zero⟩
section
variable {o : Orc} (ho : FreeT o)
include ho
theorem like23 {h a m ca cm N no e} (Ha : Co h a ca) (Hm : Co h m cm) (Ka : SpcC ca N) (Km : MadeC cm N no e) (O : N.Ok) : Ct cx o (.fn 23 [a, .p zTree, .p (.int .i64 e), m]) h (fun en h' => en = .ret (.p (.bool true)) ∧ ∃ ext, h' = h ++ ext) := by
 refine ct23 (ho _ _ _ (by decide) (by decide)) rfl ?_
 obtain ⟨x0, x1, x2, x3, bx, ax, cx0, X⟩ := spc_box Ha Ka
 obtain ⟨y0, y1, y2, y3, by', my, ay, cs, Hs, Ks⟩ := made_box Hm Km
 have hb1 : ∀ hh : List Ob, boxW hh 48 (.p zTree) = .wn (.ptr hh.length 0) (.cells 48 (zTree.cells.map .p)) := fun hh => rfl
 have g0 : hget (h ++ [Ob.cells 41 (spA N x0 x1 x2 x3), .cells 48 (zTree.cells.map .p), .cells 52 (madeA y0 y1 y2 y3 N.ver N.tr no e)]) h.length = .cells 41 (spA N x0 x1 x2 x3) := by
  rw [hget_eq, List.getElem?_append_right (by omega), Nat.sub_self]; rfl
 have g1 : hget (h ++ [Ob.cells 41 (spA N x0 x1 x2 x3), .cells 48 (zTree.cells.map .p), .cells 52 (madeA y0 y1 y2 y3 N.ver N.tr no e)]) (h.length + 1) = .cells 48 (zTree.cells.map .p) := by
  rw [hget_eq, List.getElem?_append_right (by omega), show h.length + 1 - h.length = 1 by omega]; rfl
 have g2 : hget (h ++ [Ob.cells 41 (spA N x0 x1 x2 x3), .cells 48 (zTree.cells.map .p), .cells 52 (madeA y0 y1 y2 y3 N.ver N.tr no e)]) (h.length + 2) = .cells 52 (madeA y0 y1 y2 y3 N.ver N.tr no e) := by
  rw [hget_eq, List.getElem?_append_right (by omega), show h.length + 2 - h.length = 2 by omega]; rfl
 have Ha' := Ha.ext [Ob.cells 41 (spA N x0 x1 x2 x3), .cells 48 (zTree.cells.map .p), .cells 52 (madeA y0 y1 y2 y3 N.ver N.tr no e)]
 have Hs' := Hs.ext [Ob.cells 41 (spA N x0 x1 x2 x3), .cells 48 (zTree.cells.map .p), .cells 52 (madeA y0 y1 y2 y3 N.ver N.tr no e)]
 generalize hM : h ++ [Ob.cells 41 (spA N x0 x1 x2 x3), .cells 48 (zTree.cells.map .p), .cells 52 (madeA y0 y1 y2 y3 N.ver N.tr no e)] = M at *
 have f0 : ∀ k, fieldAddr? cx 52 (.ptr k 0) 0 = some (.ptr k 0) := fun k => fieldAddr_ptr (m := 5) f52_0 s41
 have f1 : ∀ k, fieldAddr? cx 52 (.ptr k 0) 1 = some (.ptr k 6) := fun k => fieldAddr_ptr (m := 17) f52_1 s48
 have f4 : ∀ k, fieldAddr? cx 52 (.ptr k 0) 4 = some (.ptr k 47) := fun k => fieldAddr_ptr (m := 0) f52_4 s25
 have d41 : load? cx M 41 (.ptr h.length 0) = some a := by rw [load_whole (n := 6) a41 s41 g0 rfl, ax]
 have d48 : load? cx M 48 (.ptr (h.length + 1) 0) = some (.p zTree) := by rw [load_whole (n := 18) a48 s48 g1 rfl, mkAgg_p]; rfl
 have e41 : load? cx M 41 (.ptr (h.length + 2) 0) = some (mkAgg (spA N y0 y1 y2 y3)) := by rw [load_pre (n := 6) a41 s41 g2 (by show 6 ≤ 48; decide)]; rfl
 have e48 : load? cx M 48 (.ptr (h.length + 2) 6) = some (.p zTree) := by rw [load_at (n := 18) a48 s48 g2 (by show 6 + 18 ≤ 48; decide)]; rfl
 have e25 : load? cx M 25 (.ptr (h.length + 2) 47) = some (.p (.int .i64 e)) := load_one a25 g2 rfl
 have c1 := cs20 ho Ha' Hs' Ka Ks O
 have te : ∀ q, bin3 .eql cx 48 q (.p zTree) (.p zTree) = _ := fun q => tree_eql q
 simp only [sc23r0, sc23r1, sc23, ↓rwS, rwT, rwG, Nat.reduceEqDiff, Nat.reduceAdd, reduceCtorEq, Nat.reduceLT, bx, hb1, by', List.append_assoc, List.cons_append, List.nil_append, List.length_append, List.length_cons, List.length_nil, hM, f0, f1, f4, d41, d48, e41, e48, e25, te, decide_true, callW_ret ext20 c1, true_and]
 exact ⟨_, hM.symm⟩
theorem cs23 {h a m ca cm N no e} (Ha : Co h a ca) (Hm : Co h m cm) (Ka : SpcC ca N) (Km : MadeC cm N no e) (O : N.Ok) : CS cx o (.fn 23 [a, .p zTree, .p (.int .i64 e), m]) h (.ret (.p (.bool true))) h :=
 cs_pure (c := cx) (o := o) (f := 23) (ps := [ca, .pv zTree, .pv (.int .i64 e), cm]) (.cons Ha (.cons (.one (.p _)) (.cons (.one (.p _)) (.cons Hm .nil)))) rfl fun h0 as0 H0 => by
  cases H0 with
  | cons h1 H0 =>
   obtain ⟨y, z, w, rfl, hy, hz, hw⟩ := l2_3 H0
   have hy' := co_agg hy
   have hz' := hz.pv_int
   subst hy' hz'
   exact like23 ho h1 hw Ka Km O
end
theorem lbn_at {l : List Int} (hi : Inc l) {x : Int} (hx : x ∈ l) : l.getD (lbn l x) 0 = x := by
 obtain ⟨s1, s2⟩ := lbn_spec hi x
 have h := mem_lbn (List.countP_le_length) s1 s2 hi
 rw [decide_eq_true hx] at h
 have := h.symm
 rw [Bool.and_eq_true] at this
 exact of_decide_eq_true this.2
theorem del_filter {l : List Int} (hi : Inc l) {x : Int} (hx : x ∈ l) : delL l (lbn l x) = l.filter (fun a => decide (a ≠ x)) := by
 have hlt := lbn_lt hx
 have hat := lbn_at hi hx
 obtain ⟨s1, s2⟩ := lbn_spec hi x
 have hsplit : l = l.take (lbn l x) ++ x :: l.drop (lbn l x + 1) := by
  have e1 : l.drop (lbn l x) = x :: l.drop (lbn l x + 1) := by
   rw [List.drop_eq_getElem_cons hlt]
   congr 1
   rw [List.getD, List.getElem?_eq_getElem hlt] at hat
   exact hat
  rw [← e1, List.take_append_drop]
 unfold delL
 have f1 : (l.take (lbn l x)).filter (fun a => decide (a ≠ x)) = l.take (lbn l x) := by
  rw [List.filter_eq_self]
  intro a ha
  obtain ⟨k, hk⟩ := List.getElem?_of_mem ha
  rw [List.getElem?_take] at hk
  split at hk
  ·rename_i hkl
   have := s1 k hkl
   rw [List.getD, hk] at this
   simp only [Option.getD_some] at this
   simp; omega
  ·cases hk
 have f2 : (l.drop (lbn l x + 1)).filter (fun a => decide (a ≠ x)) = l.drop (lbn l x + 1) := by
  rw [List.filter_eq_self]
  intro a ha
  obtain ⟨k, hk⟩ := List.getElem?_of_mem ha
  rw [List.getElem?_drop] at hk
  have hkl := (List.getElem?_eq_some_iff.1 hk).1
  have := hi (lbn l x) (lbn l x + 1 + k) (by omega) hkl
  rw [hat, List.getD, hk] at this
  simp only [Option.getD_some] at this
  simp; omega
 have f3 : ∀ l1 l2 : List Int, (l1 ++ x :: l2).filter (fun a => decide (a ≠ x)) = l1.filter (fun a => decide (a ≠ x)) ++ l2.filter (fun a => decide (a ≠ x)) := fun l1 l2 => by
  rw [List.filter_append, List.filter_cons_of_neg (by simp)]
 conv => rhs; rw [hsplit]
 rw [f3, f1, f2]
theorem head_filter {x : Int} {l : List Int} (hi : Inc (x :: l)) : (x :: l).filter (fun a => decide (a ≠ x)) = l := by
 rw [List.filter_cons_of_neg (by simp), List.filter_eq_self]
 intro a ha
 obtain ⟨k, hk⟩ := List.getElem?_of_mem ha
 have hkl := (List.getElem?_eq_some_iff.1 hk).1
 have := hi 0 (k + 1) (by omega) (by simpa using hkl)
 rw [List.getD, List.getD, List.getElem?_cons_zero, List.getElem?_cons_succ, hk] at this
 simp only [Option.getD_some] at this
 simp; omega
theorem withL_len (l : List Int) (x : Int) : (withL l x).length ≤ l.length + 1 := by
 unfold withL
 split
 ·omega
 ·unfold insL
  rw [List.length_append, List.length_cons, List.length_take, List.length_drop]; omega
theorem alloc_same {S : Spc} (I : SpcI S) (hsm : S.small) : ∃ ca cm N no e, allocR S = .vals [ca, .pv (.int .i64 no), .pv (.int .i64 e)] ∧ allocQ S = .val cm ∧ SpcC ca N ∧ MadeC cm N no e ∧ N.Ok := by
 obtain ⟨m0, m1, m2, m3⟩ := hsm
 have okZ : (⟨[], [], [], [], 0, 0⟩ : SpN).Ok := ⟨fun p hp => (by cases hp), by decide, by decide, by decide, by decide⟩
 by_cases hs : S.Sound
 case neg =>
  refine ⟨_, _, _, _, _, allocR_f hs, @if_neg _ (Classical.propDecidable _) hs _ _ _, .zero, .err 2, okZ⟩
 have i1 : Inc S.fr := (hs.2.1 0 (by decide)).inc
 have hQ : allocQ S = _ := @if_pos _ (Classical.propDecidable _) hs _ _ _
 have k1 : IsS 1 S.cl1 (ints S.fr) := clV_is I.h1.is
 have k2 : IsS 1 S.cl2 (ints S.fs) := clV_is I.h2.is
 have k3 : IsS 1 S.cl3 (ints S.gn) := clV_is I.h3.is
 rw [hQ, allocR_t hs]
 cases hfr : S.fr with
 | cons x l =>
  rw [hfr] at i1 m1
  refine ⟨_, _, ⟨S.pgs, l, withL S.fs x, S.gn, S.ver, S.tr⟩, _, _, rfl, rfl, .of rfl rfl rfl (.own _ _) (withV_is k2) k3, .of rfl rfl rfl (by rw [head_filter i1]; exact accV_is _) (accV_is _) I.h3.is, ⟨I.pg, by simp; omega, by simp at m1 ⊢; omega, by have := withL_len S.fs x; simp; omega, by simp; omega⟩⟩
 | nil =>
  simp only
  by_cases hp : S.pgs.length < 4096
  ·rw [if_pos hp, if_pos hp]
   rw [hfr] at k1
   have h1 := I.h1.is
   rw [hfr] at h1
   refine ⟨_, _, ⟨S.pgs ++ [zeroPage], [], withL S.fs (S.pgs.length : Nat), S.gn, S.ver, S.tr⟩, _, _, rfl, rfl, .of rfl rfl rfl k1 (withV_is k2) k3, .of rfl rfl rfl h1 (accV_is _) I.h3.is, ⟨fun p hp => ?_, by simp; omega, by simp, by have := withL_len S.fs (S.pgs.length : Nat); simp; omega, by simp; omega⟩⟩
   rcases List.mem_append.1 hp with q | q
   ·exact I.pg p q
   ·rw [List.mem_singleton.1 q]; exact PgTy.zero
  ·omega
theorem rel_same {S : Spc} (I : SpcI S) (hsm : S.small) (x : Int) : ∃ ca cm N no e, relR S x = .vals [ca, .pv (.int .i64 e)] ∧ relQ S x = .val cm ∧ SpcC ca N ∧ MadeC cm N no e ∧ N.Ok := by
 obtain ⟨m0, m1, m2, m3⟩ := hsm
 have okZ : (⟨[], [], [], [], 0, 0⟩ : SpN).Ok := ⟨fun p hp => (by cases hp), by decide, by decide, by decide, by decide⟩
 by_cases hs : S.Sound
 case neg =>
  exact ⟨_, _, _, _, _, relR_f hs, @if_neg _ (Classical.propDecidable _) hs _ _ _, .zero, .err 2, okZ⟩
 by_cases hr : S.relOk x
 case neg =>
  exact ⟨_, _, _, _, _, relR_g hs hr, (@if_pos _ (Classical.propDecidable _) hs _ _ _).trans (@if_neg _ (Classical.propDecidable _) hr _ _ _), .zero, .err 1, okZ⟩
 have hQ : relQ S x = _ := (@if_pos _ (Classical.propDecidable _) hs _ _ _).trans (@if_pos _ (Classical.propDecidable _) hr _ _ _)
 have i2 : Inc S.fs := (hs.2.1 1 (by decide)).inc
 have k1 : IsS 1 S.cl1 (ints S.fr) := clV_is I.h1.is
 have k2 : IsS 1 S.cl2 (ints S.fs) := clV_is I.h2.is
 have k3 : IsS 1 S.cl3 (ints S.gn) := clV_is I.h3.is
 by_cases hx : x ∈ S.fs
 ·have kw := withoutV_is (x := x) k2
  rw [if_pos hx, del_filter i2 hx] at kw
  refine ⟨_, _, ⟨S.pgs.set x.toNat zeroPage, withL S.fr x, S.fs.filter fun a => decide (a ≠ x), S.gn, S.ver, S.tr⟩, _, _, relR_b hs hr hx, hQ.trans (if_pos hx), .of rfl rfl rfl (withV_is k1) kw k3, .of rfl rfl rfl (accV_is _) (accV_is _) I.h3.is, ⟨fun p hp => ?_, by simp; omega, by have := withL_len S.fr x; simp; omega, by have := List.length_filter_le (fun a => decide (a ≠ x)) S.fs; show (S.fs.filter _).length < _; omega, by simp; omega⟩⟩
  rcases List.mem_or_eq_of_mem_set hp with q | q
  ·exact I.pg p q
  ·rw [q]; exact PgTy.zero
 ·exact ⟨_, _, ⟨S.pgs, S.fr, S.fs, withL S.gn x, S.ver, S.tr⟩, _, _, relR_a hs hr hx, hQ.trans (if_neg hx), .of rfl rfl rfl k1 k2 (withV_is k3), .of rfl rfl rfl I.h1.is I.h2.is (accV_is _), ⟨I.pg, by simp; omega, by simp; omega, by simp; omega, by have := withL_len S.gn x; simp; omega⟩⟩
theorem new_spc (n : Nat) (hn : n ≤ 4096) : SpcC (newC n) ⟨List.replicate n zeroPage, nums (n - 2), [], [], 1, 1⟩ ∧ (⟨List.replicate n zeroPage, nums (n - 2), [], [], 1, 1⟩ : SpN).Ok :=
 ⟨.of rfl rfl rfl (accV_is _) .nil .nil, ⟨fun p hp => by rw [(List.mem_replicate.1 hp).2]; exact PgTy.zero, by simp; omega, by show (nums (n - 2)).length < _; rw [nums_len]; omega, by simp, by simp⟩⟩
theorem f52_3' (k : Nat) : fieldAddr? cx 52 (.ptr k 0) 3 = some (.ptr k 46) := fieldAddr_ptr (m := 0) f52_3 s3
theorem st_new {h : List Ob} {e : TypeId} {n : Nat} {z cs : List AV} {v : AV} (hs : sizeOf? cx e = some n) (hz : z.length = n) (hv : v.cells? = some cs) (hn : cs.length = n) : store? cx (h ++ [.cells e z]) e (.ptr h.length 0) v = .ws undefA h.length (.cells e cs) :=
 store_whole hs (hget_new _ _) hv hn hz
section
variable {o : Orc} (ho : FreeT o) (hI : HasIns o) (hsane : Ct cx o (.fn 13 []) [] (fun e _ => e = .ret (.p (.bool true))))
include ho hI hsane
theorem call13 {h dst t d r K Q} : callW cx o dst t h d r (some (.fn 13 [])) K Q = K (put dst (.p (.bool true)) t) h d r :=
 callW_ret (by kernel_rfl) (cs_p (f := 13) (ps := []) rfl hsane)
theorem law4 {S : Spc} (I : SpcI S) (no pages : Int) : Ct cx o (.fn 4 [.p S.v, .p (.int .i64 no), .p (.int .i64 pages)]) [] (fun e _ => e = .ret (.p (.bool true))) := by
 refine ct4 (ho _ _ _ (by decide) (by decide)) rfl ?_
 obtain ⟨e, h', hr, b, rfl, hb⟩ := small12 ho I
 have p12 : ∀ h, CS cx o (.fn 12 [.p S.v]) h (.ret (.p (.bool b))) h := fun h => cs_p (f := 12) (ps := [S.v]) rfl ⟨_, h', hr, rfl⟩
 cases b with
 | false =>
  simp only [sc4, sc4r0, sc4r1, sc4r2, ↓rwS, rwT, rwG, Nat.reduceEqDiff, Nat.reduceAdd, reduceCtorEq, Nat.reduceLT, hbox, List.nil_append, List.length_nil, ldS, callW_ret ext12 (p12 _), call13 ho hI hsane]
  try (first | rfl | trivial)
 | true =>
  have hsm := hb rfl
  have O := I.ok hsm
  have hpg : PgOk S.pgs := fun p hp => (I.pg p hp).pgOk
  obtain ⟨cA, cM, NA, no1, e1, qa, qb, ka, kb, okA⟩ := alloc_same I hsm
  obtain ⟨cB, cN, NB, no2, e2, ra, rb, kc, kd, okB⟩ := rel_same I hsm no
  have z0 : zeroSpace.cells.map AV.p = [.p .nils, .p .nils, .p .nils, .p .nils, .p (.int .i64 0), .p (.int .i64 0)] := rfl
  have zc : (madeV .nils .nils .nils .nils 0 0 0 0).cells.map AV.p = z52c := rfl
  -- Alloc
  obtain ⟨eA, ext1, p14, cA1⟩ := cs_valP (h := [.cells 41 S.cells]) (ps := [S.v]) (alloc14 ho hI O)
  rw [qa] at cA1
  obtain ⟨vA, hA, rfl⟩ : ∃ v, Co ([.cells 41 S.cells] ++ ext1) v cA ∧ eA = .ret (.tup [v, .p (.int .i64 no1), .p (.int .i64 e1)]) := by
   cases cA1 with
   | vals hl =>
    obtain ⟨x, y, z, rfl, hx, hy, hz⟩ := l2_3 hl
    have hy' := hy.pv_int
    have hz' := hz.pv_int
    subst hy' hz'
    exact ⟨x, hx, rfl⟩
  obtain ⟨a0, a1, a2, a3', bxA, axA, cxA, _⟩ := spc_box hA ka
  have y0 : hget ([.cells 41 S.cells] ++ ext1) 0 = .cells 41 S.cells := rfl
  generalize hM1 : [.cells 41 S.cells] ++ ext1 = M1 at *
  have l0 := hget_cells_lt y0
  have sA := st_new (h := M1) (v := vA) (z := [.p .nils, .p .nils, .p .nils, .p .nils, .p (.int .i64 0), .p (.int .i64 0)]) s41 rfl cxA rfl
  have hA2 := hA.ext [.cells 41 (spA NA a0 a1 a2 a3')]
  have y0 := (hget_appL [.cells 41 (spA NA a0 a1 a2 a3')] 0 l0).trans y0
  have gA : hget (M1 ++ [.cells 41 (spA NA a0 a1 a2 a3')]) M1.length = .cells 41 (spA NA a0 a1 a2 a3') := hget_new _ _
  generalize hM2 : M1 ++ [.cells 41 (spA NA a0 a1 a2 a3')] = M2 at *
  have d2 : load? cx M2 41 (.ptr 0 0) = some (.p S.v) := (load_whole a41 s41 y0 rfl).trans rfl
  -- the specification's Alloc
  obtain ⟨eM, ext2, p15, cM1⟩ := cs_valP (h := M2) (ps := [S.v]) (alloc15 ho O)
  rw [qb] at cM1
  obtain ⟨vM, rfl, hM⟩ := cM1.val_inv
  obtain ⟨m0, m1, m2, m3, bxM, cxM, axM, _⟩ := made_box hM kb
  have hA3 := hA2.ext ext2
  have gA := (hget_appL ext2 _ (hget_cells_lt gA)).trans gA
  have y0 := (hget_appL ext2 0 (hget_cells_lt y0)).trans y0
  generalize hM3 : M2 ++ ext2 = M3 at *
  have sM := st_new (h := M3) (v := vM) (z := z52c) s52 rfl cxM rfl
  have hA4 := hA3.ext [.cells 52 (madeA m0 m1 m2 m3 NA.ver NA.tr no1 e1)]
  have hM4' := hM.ext [.cells 52 (madeA m0 m1 m2 m3 NA.ver NA.tr no1 e1)]
  have gA := (hget_appL [.cells 52 (madeA m0 m1 m2 m3 NA.ver NA.tr no1 e1)] _ (hget_cells_lt gA)).trans gA
  have y0 := (hget_appL [.cells 52 (madeA m0 m1 m2 m3 NA.ver NA.tr no1 e1)] 0 (hget_cells_lt y0)).trans y0
  have gM : hget (M3 ++ [.cells 52 (madeA m0 m1 m2 m3 NA.ver NA.tr no1 e1)]) M3.length = .cells 52 (madeA m0 m1 m2 m3 NA.ver NA.tr no1 e1) := hget_new _ _
  generalize hM4 : M3 ++ [.cells 52 (madeA m0 m1 m2 m3 NA.ver NA.tr no1 e1)] = M4 at *
  have d4 : load? cx M4 41 (.ptr 0 0) = some (.p S.v) := (load_whole a41 s41 y0 rfl).trans rfl
  -- Release
  obtain ⟨eB, ext3, p16, cB1⟩ := cs_valP (h := M4) (ps := [S.v, .int .i64 no]) (rel16 ho hI O hpg no)
  rw [ra] at cB1
  obtain ⟨vB, hB, rfl⟩ : ∃ v, Co (M4 ++ ext3) v cB ∧ eB = .ret (.tup [v, .p (.int .i64 e2)]) := by
   cases cB1 with
   | vals hl =>
    obtain ⟨x, y, rfl, hx, hy⟩ := l2_2 hl
    have hy' := hy.pv_int
    subst hy'
    exact ⟨x, hx, rfl⟩
  obtain ⟨b0, b1, b2, b3, bxB, axB, cxB, _⟩ := spc_box hB kc
  have hA5 := hA4.ext ext3
  have hM5' := hM4'.ext ext3
  have gA := (hget_appL ext3 _ (hget_cells_lt gA)).trans gA
  have gM := (hget_appL ext3 _ (hget_cells_lt gM)).trans gM
  have y0 := (hget_appL ext3 0 (hget_cells_lt y0)).trans y0
  generalize hM5 : M4 ++ ext3 = M5 at *
  have sB := st_new (h := M5) (v := vB) (z := [.p .nils, .p .nils, .p .nils, .p .nils, .p (.int .i64 0), .p (.int .i64 0)]) s41 rfl cxB rfl
  have hA6 := hA5.ext [.cells 41 (spA NB b0 b1 b2 b3)]
  have hM6' := hM5'.ext [.cells 41 (spA NB b0 b1 b2 b3)]
  have hB6 := hB.ext [.cells 41 (spA NB b0 b1 b2 b3)]
  have gA := (hget_appL [.cells 41 (spA NB b0 b1 b2 b3)] _ (hget_cells_lt gA)).trans gA
  have gM := (hget_appL [.cells 41 (spA NB b0 b1 b2 b3)] _ (hget_cells_lt gM)).trans gM
  have y0 := (hget_appL [.cells 41 (spA NB b0 b1 b2 b3)] 0 (hget_cells_lt y0)).trans y0
  have gB : hget (M5 ++ [.cells 41 (spA NB b0 b1 b2 b3)]) M5.length = .cells 41 (spA NB b0 b1 b2 b3) := hget_new _ _
  generalize hM6 : M5 ++ [.cells 41 (spA NB b0 b1 b2 b3)] = M6 at *
  have d6 : load? cx M6 41 (.ptr 0 0) = some (.p S.v) := (load_whole a41 s41 y0 rfl).trans rfl
  -- the specification's Release
  obtain ⟨eN, ext4, p17, cN1⟩ := cs_valP (h := M6) (ps := [S.v, .int .i64 no]) (rel17 ho O hpg no)
  rw [rb] at cN1
  obtain ⟨vN, rfl, hN⟩ := cN1.val_inv
  obtain ⟨n0, n1, n2, n3, bxN, cxN, axN, _⟩ := made_box hN kd
  have hA7 := hA6.ext ext4
  have hM7' := hM6'.ext ext4
  have hB7 := hB6.ext ext4
  have gA := (hget_appL ext4 _ (hget_cells_lt gA)).trans gA
  have gM := (hget_appL ext4 _ (hget_cells_lt gM)).trans gM
  have gB := (hget_appL ext4 _ (hget_cells_lt gB)).trans gB
  have y0 := (hget_appL ext4 0 (hget_cells_lt y0)).trans y0
  generalize hM7 : M6 ++ ext4 = M7 at *
  have sN := st_new (h := M7) (v := vN) (z := z52c) s52 rfl cxN rfl
  have hA8 := hA7.ext [.cells 52 (madeA n0 n1 n2 n3 NB.ver NB.tr no2 e2)]
  have hM8' := hM7'.ext [.cells 52 (madeA n0 n1 n2 n3 NB.ver NB.tr no2 e2)]
  have hB8 := hB7.ext [.cells 52 (madeA n0 n1 n2 n3 NB.ver NB.tr no2 e2)]
  have hN8 := hN.ext [.cells 52 (madeA n0 n1 n2 n3 NB.ver NB.tr no2 e2)]
  have gA := (hget_appL [.cells 52 (madeA n0 n1 n2 n3 NB.ver NB.tr no2 e2)] _ (hget_cells_lt gA)).trans gA
  have gM := (hget_appL [.cells 52 (madeA n0 n1 n2 n3 NB.ver NB.tr no2 e2)] _ (hget_cells_lt gM)).trans gM
  have gB := (hget_appL [.cells 52 (madeA n0 n1 n2 n3 NB.ver NB.tr no2 e2)] _ (hget_cells_lt gB)).trans gB
  have y0 := (hget_appL [.cells 52 (madeA n0 n1 n2 n3 NB.ver NB.tr no2 e2)] 0 (hget_cells_lt y0)).trans y0
  have gN : hget (M7 ++ [.cells 52 (madeA n0 n1 n2 n3 NB.ver NB.tr no2 e2)]) M7.length = .cells 52 (madeA n0 n1 n2 n3 NB.ver NB.tr no2 e2) := hget_new _ _
  generalize hM8 : M7 ++ [.cells 52 (madeA n0 n1 n2 n3 NB.ver NB.tr no2 e2)] = M8 at *
  have d8 : load? cx M8 41 (.ptr 0 0) = some (.p S.v) := (load_whole a41 s41 y0 rfl).trans rfl
  -- New
  have hn4 : (min (max pages 2) 4096).toNat ≤ 4096 := by omega
  have hnn : (max 2 (min pages 4096)).toNat = (min (max pages 2) 4096).toNat := by omega
  obtain ⟨eX, ext5, p21, cX1⟩ := cs_valP (h := M8) (ps := [.int .i64 pages]) (new21 ho pages)
  obtain ⟨vX, rfl, hX⟩ := cX1.val_inv
  have hA9 := hA8.ext ext5
  have hM9' := hM8'.ext ext5
  have hB9 := hB8.ext ext5
  have hN9 := hN8.ext ext5
  have gA := (hget_appL ext5 _ (hget_cells_lt gA)).trans gA
  have gM := (hget_appL ext5 _ (hget_cells_lt gM)).trans gM
  have gB := (hget_appL ext5 _ (hget_cells_lt gB)).trans gB
  have gN := (hget_appL ext5 _ (hget_cells_lt gN)).trans gN
  generalize hM9 : M8 ++ ext5 = M9 at *
  obtain ⟨eY, ext6, p22, cY1⟩ := cs_valP (h := M9) (ps := [.int .i64 pages]) (new22 ho pages)
  rw [hnn] at cY1
  obtain ⟨vY, rfl, hY⟩ := cY1.val_inv
  have hX0 := hX.ext ext6
  have hA0 := hA9.ext ext6
  have hM0' := hM9'.ext ext6
  have hB0 := hB9.ext ext6
  have hN0 := hN9.ext ext6
  have gA := (hget_appL ext6 _ (hget_cells_lt gA)).trans gA
  have gM := (hget_appL ext6 _ (hget_cells_lt gM)).trans gM
  have gB := (hget_appL ext6 _ (hget_cells_lt gB)).trans gB
  have gN := (hget_appL ext6 _ (hget_cells_lt gN)).trans gN
  generalize hM0 : M9 ++ ext6 = M0 at *
  obtain ⟨kx, okX⟩ := new_spc _ hn4
  have p20 := cs20 ho hX0 hY kx kx okX
  have p23a := cs23 ho hA0 hM0' ka kb okA
  have p23b := cs23 ho hB0 hN0 kc kd okB
  have dA : load? cx M0 41 (.ptr M1.length 0) = some vA := by rw [load_whole (n := 6) a41 s41 gA rfl, axA]
  have dM : load? cx M0 52 (.ptr M3.length 0) = some vM := by rw [load_whole (n := 48) a52 s52 gM rfl, axM]
  have dM3 : load? cx M0 3 (.ptr M3.length 46) = some (.p (.int .i64 no1)) := load_one a3 gM rfl
  have dB : load? cx M0 41 (.ptr M5.length 0) = some vB := by rw [load_whole (n := 6) a41 s41 gB rfl, axB]
  have dN : load? cx M0 52 (.ptr M7.length 0) = some vN := by rw [load_whole (n := 48) a52 s52 gN rfl, axN]
  have p18 : ∀ h, CS cx o (.fn 18 [.p S.v]) h (.ret (.p (.int .i64 S.soundE))) h := fun h => cs_p (f := 18) (ps := [S.v]) rfl (sound18 ho O)
  have p19 : ∀ h, CS cx o (.fn 19 [.p S.v]) h (.ret (.p (.int .i64 S.soundE))) h := fun h => cs_p (f := 19) (ps := [S.v]) rfl (sound19 ho O)
  simp only [List.map_cons, List.map_nil] at p14 p15 p16 p17 p21 p22
  simp only [sc4, sc4r0, sc4r1, sc4r3, sc4r4, sc4r5, sc4r6, sc4d7_x, sc4r7, ↓rwS, rwT, rwG, Nat.reduceEqDiff, Nat.reduceAdd, reduceCtorEq, Nat.reduceLT, ↓rwC, rwD, rwI, Nat.reduceSub, Nat.reduceLeDiff, hbox, List.nil_append, List.length_nil, ldS, callW_ret ext12 (p12 _), callW_ret ext14 p14, hM1, extractW, aget_eq', List.getElem?_cons_zero, List.getElem?_cons_succ, z41, z0, sA, hset_new, hM2, d2, callW_ret ext15 p15, hM3, z52, zc, sM, hM4, d4, callW_ret ext16 p16, hM5, sB, hM6, d6, callW_ret ext17 p17, hM7, sN, hM8, call13 ho hI hsane, d8, callW_ret ext18 (p18 _), callW_ret ext19 (p19 _), decide_true, callW_ret ext21 p21, hM9, callW_ret ext22 p22, hM0, callW_ret ext20 p20, b48, dA, dM, callW_ret ext23 p23a, f52_3', dM3, dB, dN, callW_ret ext23 p23b]
  try (first | rfl | trivial)
end
end Go.Proofs

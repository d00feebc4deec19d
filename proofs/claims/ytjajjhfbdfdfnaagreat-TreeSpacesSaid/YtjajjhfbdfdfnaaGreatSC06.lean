/- What is proved: contracts of the specification's Sound, of opening a space, of taking a page. Conditions: as before. -/
import Derived.Test.YtjajjhfbdfdfnaaGreatSC05
set_option linter.all false
set_option maxRecDepth 100000
namespace Go.Ai
theorem xC_drawZ1 {c : Ctx} {o : Orc} {rd Q t h d r} {s : SOp} {k : DK} {l : List (SOp × DK)} {v : AV} {ob : Ob} (hz : isZ s.op = true) (hl : noZ l = true) (hv : opD s.op c .lf h = .wn v ob) :
  xC c o rd (.draw ((s, k) :: l)) Q t h d r = xDraw c o rd Q ((s, k) :: l) 0 [h ++ [ob]] [] [v] t (h ++ [ob]) d r := by
 have : hoistS c ((s, k) :: l) h = some ([v], h ++ [ob]) := by
  show cond (isZ s.op) (match opD s.op c .lf h with
   | .wn v ob => (match hoistS c l (h ++ [ob]) with | some (zs, h) => some (v :: zs, h) | none => none)
   | _ => none) (hoistS c l h) = _
  rw [hz, hv]
  simp only [cond]
  rw [hoist_noZ hl]
 simp only [xC, this]
theorem xDraw_Z {c : Ctx} {o : Orc} {rd Q t h d r m hs ps zs} {s : SOp} {l : List (SOp × DK)} {v : AV} : xDraw c o rd Q ((s, .Z) :: l) m hs ps (v :: zs) t h d r = xDraw c o rd Q l m hs ps zs (put s.dst v t) h d r := (rfl)
end Go.Ai
namespace Go.Proofs
open Go Go.Ai
noncomputable def Spc.soundB (S : Spc) : Bool := @decide S.Sound (Classical.propDecidable _)
theorem Spc.soundB_t {S : Spc} (h : S.Sound) : S.soundB = true := @decide_eq_true _ (Classical.propDecidable _) h
theorem Spc.soundB_f {S : Spc} (h : ¬S.Sound) : S.soundB = false := @decide_eq_false _ (Classical.propDecidable _) h
theorem Spc.pre3 (S : Spc) : S.pre 3 = S.fr ++ S.fs ++ S.gn := by unfold Spc.pre; simp
theorem sl_own {h e sz j g n xs} (H : Own h e sz (.sl j g sz 0 n) xs) : ∃ ex, hget h j = .row e sz xs ex g ∧ n = xs.length := by
 cases H with
 | row hr => exact ⟨_, hr, rfl⟩
theorem incP_mem {l : List Int} {n x : Int} (H : IncP l n) (hx : x ∈ l) : 2 ≤ x ∧ x < n := by
 obtain ⟨k, hk⟩ := List.getElem?_of_mem hx
 have hl := (List.getElem?_eq_some_iff.1 hk).1
 have := H k hl
 have e : l.getD k 0 = x := by rw [List.getD, hk]; rfl
 rw [e] at this
 exact ⟨this.1, this.2.1⟩
section
variable {o : Orc} (ho : FreeT o)
include ho
theorem call110 {p : PV} {l : List Int} {n : Int} {h dst t d r K Q} (H : SlP 1 p (ints l)) (hl : l.length < 1000000000) :
  callW cx o dst t h d r (some (.fn 110 [.p p, .p (.int .i64 n)])) K Q = K (put dst (.p (.bool (incB l n))) t) h d r :=
 callW_ret ext110 (cs_p (f := 110) (ps := [p, .int .i64 n]) rfl (by
  obtain ⟨e, h', hr, h1, h2⟩ := inc110 ho (H.sl []) hl (n := n)
  exact ⟨e, h', hr, h2⟩))
theorem sound59 {S : Spc} (O : SpcOk S) : Ct cx o (.fn 59 [.p S.v]) [] (fun e _ => e = .ret (.p (.bool S.soundB))) := by
 refine ct59 (ho _ _ _ (by decide) (by decide)) rfl ?_
 have fa0 : fieldAddr? cx 41 (.ptr 0 0) 0 = some (.ptr 0 0) := fieldAddr_ptr (m := 0) f41_0 s38
 have fa1 : fieldAddr? cx 41 (.ptr 0 0) 1 = some (.ptr 0 1) := fieldAddr_ptr (m := 0) f41_1 s39
 have fa2 : fieldAddr? cx 41 (.ptr 0 0) 2 = some (.ptr 0 2) := fieldAddr_ptr (m := 0) f41_2 s39
 have fa3 : fieldAddr? cx 41 (.ptr 0 0) 3 = some (.ptr 0 3) := fieldAddr_ptr (m := 0) f41_3 s39
 have fa4 : fieldAddr? cx 41 (.ptr 0 0) 4 = some (.ptr 0 4) := fieldAddr_ptr (m := 0) f41_4 s3
 have fa5 : fieldAddr? cx 41 (.ptr 0 0) 5 = some (.ptr 0 5) := fieldAddr_ptr (m := 0) f41_5 s3
 have ld0 : ∀ l : List Ob, load? cx (.cells 41 S.cells :: l) 38 (.ptr 0 0) = some (.p S.p0) := fun l => load_one a38 rfl rfl
 have ld1 : ∀ l : List Ob, load? cx (.cells 41 S.cells :: l) 39 (.ptr 0 1) = some (.p S.p1) := fun l => load_one a39 rfl rfl
 have ld2 : ∀ l : List Ob, load? cx (.cells 41 S.cells :: l) 39 (.ptr 0 2) = some (.p S.p2) := fun l => load_one a39 rfl rfl
 have ld3 : ∀ l : List Ob, load? cx (.cells 41 S.cells :: l) 39 (.ptr 0 3) = some (.p S.p3) := fun l => load_one a39 rfl rfl
 have ld4 : ∀ l : List Ob, load? cx (.cells 41 S.cells :: l) 3 (.ptr 0 4) = some (.p (.int .i64 S.ver)) := fun l => load_one a3 rfl rfl
 have ld5 : ∀ l : List Ob, load? cx (.cells 41 S.cells :: l) 3 (.ptr 0 5) = some (.p (.int .i64 S.tr)) := fun l => load_one a3 rfl rfl
 have len0 : ∀ hh : List Ob, lenW cx hh 38 (.p S.p0) = _ := fun hh => (O.h0.sl hh).len u38
 have l1 := O.l1
 have l2 := O.l2
 have l3 := O.l3
 by_cases c1 : ((S.pgs.length : Nat) : Int) < 2
 ·have hb : S.soundB = false := Spc.soundB_f fun q => by have := q.1.1; omega
  simp only [sc59r0, sc59r1, sc59r2, sc59r3, sc59r4, sc59r5, sc59r6, sc59r7, sc59r8, sc59r9, sc59r10, sc59r11, sc59r12, sc59r13, sc59r15, sc59, ↓rwS, rwT, rwG, Nat.reduceEqDiff, Nat.reduceAdd, reduceCtorEq, Nat.reduceLT, hbox, List.nil_append, List.length_nil, fa0, ld0, len0, c1, decide_true, hb]
 by_cases c2 : (4096 : Int) < ((S.pgs.length : Nat) : Int)
 ·have hb : S.soundB = false := Spc.soundB_f fun q => by have := q.1.2.1; omega
  simp only [sc59r0, sc59r1, sc59r2, sc59r3, sc59r4, sc59r5, sc59r6, sc59r7, sc59r8, sc59r9, sc59r10, sc59r11, sc59r12, sc59r13, sc59r15, sc59, ↓rwS, rwT, rwG, Nat.reduceEqDiff, Nat.reduceAdd, reduceCtorEq, Nat.reduceLT, hbox, List.nil_append, List.length_nil, fa0, ld0, len0, c1, c2, decide_true, decide_false, hb]
 by_cases c3 : S.ver < 0
 ·have hb : S.soundB = false := Spc.soundB_f fun q => by have := q.1.2.2.1; omega
  simp only [sc59r0, sc59r1, sc59r2, sc59r3, sc59r4, sc59r5, sc59r6, sc59r7, sc59r8, sc59r9, sc59r10, sc59r11, sc59r12, sc59r13, sc59r15, sc59, ↓rwS, rwT, rwG, Nat.reduceEqDiff, Nat.reduceAdd, reduceCtorEq, Nat.reduceLT, hbox, List.nil_append, List.length_nil, fa0, ld0, len0, fa4, ld4, c1, c2, c3, decide_true, decide_false, hb]
 by_cases c4 : 1099511627776 < S.ver
 ·have hb : S.soundB = false := Spc.soundB_f fun q => by have := q.1.2.2.2.1; omega
  simp only [sc59r0, sc59r1, sc59r2, sc59r3, sc59r4, sc59r5, sc59r6, sc59r7, sc59r8, sc59r9, sc59r10, sc59r11, sc59r12, sc59r13, sc59r15, sc59, ↓rwS, rwT, rwG, Nat.reduceEqDiff, Nat.reduceAdd, reduceCtorEq, Nat.reduceLT, hbox, List.nil_append, List.length_nil, fa0, ld0, len0, fa4, ld4, c1, c2, c3, c4, decide_true, decide_false, hb]
 by_cases c5 : S.tr < 0
 ·have hb : S.soundB = false := Spc.soundB_f fun q => by have := q.1.2.2.2.2.1; omega
  simp only [sc59r0, sc59r1, sc59r2, sc59r3, sc59r4, sc59r5, sc59r6, sc59r7, sc59r8, sc59r9, sc59r10, sc59r11, sc59r12, sc59r13, sc59r15, sc59, ↓rwS, rwT, rwG, Nat.reduceEqDiff, Nat.reduceAdd, reduceCtorEq, Nat.reduceLT, hbox, List.nil_append, List.length_nil, fa0, ld0, len0, fa4, ld4, fa5, ld5, c1, c2, c3, c4, c5, decide_true, decide_false, hb]
 by_cases c6 : 255 < S.tr
 ·have hb : S.soundB = false := Spc.soundB_f fun q => by have := q.1.2.2.2.2.2; omega
  simp only [sc59r0, sc59r1, sc59r2, sc59r3, sc59r4, sc59r5, sc59r6, sc59r7, sc59r8, sc59r9, sc59r10, sc59r11, sc59r12, sc59r13, sc59r15, sc59, ↓rwS, rwT, rwG, Nat.reduceEqDiff, Nat.reduceAdd, reduceCtorEq, Nat.reduceLT, hbox, List.nil_append, List.length_nil, fa0, ld0, len0, fa4, ld4, fa5, ld5, c1, c2, c3, c4, c5, c6, decide_true, decide_false, hb]
 have okN : S.okN := ⟨by omega, by omega, by omega, by omega, by omega, by omega⟩
 have cc1 : ∀ {h dst t d r K Q}, callW cx o dst t h d r (some (.fn 110 [.p S.p1, .p (.int .i64 (S.pgs.length : Nat))])) K Q = K (put dst (.p (.bool (incB S.fr (S.pgs.length : Nat)))) t) h d r := call110 ho O.h1 (by omega)
 have cc2 : ∀ {h dst t d r K Q}, callW cx o dst t h d r (some (.fn 110 [.p S.p2, .p (.int .i64 (S.pgs.length : Nat))])) K Q = K (put dst (.p (.bool (incB S.fs (S.pgs.length : Nat)))) t) h d r := call110 ho O.h2 (by omega)
 have cc3 : ∀ {h dst t d r K Q}, callW cx o dst t h d r (some (.fn 110 [.p S.p3, .p (.int .i64 (S.pgs.length : Nat))])) K Q = K (put dst (.p (.bool (incB S.gn (S.pgs.length : Nat)))) t) h d r := call110 ho O.h3 (by omega)
 have bad : ∀ i, i < 3 → ¬IncP (S.L i) (S.pgs.length : Nat) → S.soundB = false := fun i hi q => Spc.soundB_f fun hs => q (hs.2.1 i hi)
 by_cases d1 : IncP S.fr (S.pgs.length : Nat)
 case neg =>
  simp only [sc59r0, sc59r1, sc59r2, sc59r3, sc59r4, sc59r5, sc59r6, sc59r7, sc59r8, sc59r9, sc59r10, sc59r11, sc59r12, sc59r13, sc59r15, sc59, ↓rwS, rwT, rwG, Nat.reduceEqDiff, Nat.reduceAdd, reduceCtorEq, Nat.reduceLT, hbox, List.nil_append, List.length_nil, fa0, ld0, len0, fa4, ld4, fa5, ld5, c1, c2, c3, c4, c5, c6, decide_false, fa1, ld1, cc1, incB_false d1, bad 0 (by omega) d1]
 by_cases d2 : IncP S.fs (S.pgs.length : Nat)
 case neg =>
  simp only [sc59r0, sc59r1, sc59r2, sc59r3, sc59r4, sc59r5, sc59r6, sc59r7, sc59r8, sc59r9, sc59r10, sc59r11, sc59r12, sc59r13, sc59r15, sc59, ↓rwS, rwT, rwG, Nat.reduceEqDiff, Nat.reduceAdd, reduceCtorEq, Nat.reduceLT, hbox, List.nil_append, List.length_nil, fa0, ld0, len0, fa4, ld4, fa5, ld5, c1, c2, c3, c4, c5, c6, decide_false, fa1, ld1, cc1, incB_true d1, fa2, ld2, cc2, incB_false d2, bad 1 (by omega) d2]
 by_cases d3 : IncP S.gn (S.pgs.length : Nat)
 case neg =>
  simp only [sc59r0, sc59r1, sc59r2, sc59r3, sc59r4, sc59r5, sc59r6, sc59r7, sc59r8, sc59r9, sc59r10, sc59r11, sc59r12, sc59r13, sc59r15, sc59, ↓rwS, rwT, rwG, Nat.reduceEqDiff, Nat.reduceAdd, reduceCtorEq, Nat.reduceLT, hbox, List.nil_append, List.length_nil, fa0, ld0, len0, fa4, ld4, fa5, ld5, c1, c2, c3, c4, c5, c6, decide_false, fa1, ld1, cc1, incB_true d1, fa2, ld2, cc2, incB_true d2, fa3, ld3, cc3, incB_false d3, bad 2 (by omega) d3]
 have hinc : ∀ i, i < 3 → IncP (S.L i) (S.pgs.length : Nat) := fun i hi => match i, hi with
  | 0, _ => d1
  | 1, _ => d2
  | 2, _ => d3
 have mk : ∀ hh : List Ob, makeSlice? cx hh 109 (.p (.int .i64 ((S.pgs.length : Nat) : Int))) (.p (.int .i64 ((S.pgs.length : Nat) : Int))) = _ := fun hh => make_bools (by omega)
 -- the list of all
 obtain ⟨v1, h1, a1, ⟨j1, g1, b1, b1'⟩, e1, f1, k1, m1⟩ := app_any (c := cx) (o := o) (rd := none) (h := [.cells 41 S.cells, .row 4 1 (marks [] S.pgs.length) true 0, .row 3 1 [] true 0]) (i := 2) (g := 0) (e := 3) (xs := []) (x := .p S.p1) rfl s3 (by decide) (O.h1.sl _).elems (O.h1.sl []).szIsB (room_le room3 (by rw [ints_length]; simp; omega))
 rw [b1] at a1
 obtain ⟨ex1, r1, _⟩ := sl_own a1
 simp only [List.nil_append] at a1 r1 b1
 obtain ⟨v2, h2, a2, ⟨j2, g2, b2, b2'⟩, e2, f2, k2, m2⟩ := app_any (c := cx) (o := o) (rd := none) (x := .p S.p2) r1 s3 (by decide) (O.h2.sl _).elems (O.h2.sl []).szIsB (room_le room3 (by rw [ints_length, ints_length]; omega))
 rw [b2] at a2
 obtain ⟨ex2, r2, _⟩ := sl_own a2
 obtain ⟨v3, h3, a3', ⟨j3, g3, b3, b3'⟩, e3, f3, k3, m3⟩ := app_any (c := cx) (o := o) (rd := none) (x := .p S.p3) r2 s3 (by decide) (O.h3.sl _).elems (O.h3.sl []).szIsB (room_le room3 (by rw [List.length_append, ints_length, ints_length, ints_length]; omega))
 rw [b3] at a3'
 obtain ⟨ex3, r3, _⟩ := sl_own a3'
 simp only [List.length_cons, List.length_nil] at e1 f1 b1'
 have x10 : hget h1 0 = .cells 41 S.cells := f1 0 (by omega) (by omega)
 have x11 : hget h1 1 = .row 4 1 (marks [] S.pgs.length) true 0 := f1 1 (by omega) (by omega)
 have x20 : hget h2 0 = .cells 41 S.cells := by rw [f2 0 (by omega) (by omega)]; exact x10
 have x21 : hget h2 1 = .row 4 1 (marks [] S.pgs.length) true 0 := by rw [f2 1 (by omega) (by omega)]; exact x11
 have x31 : hget h3 1 = .row 4 1 (marks [] S.pgs.length) true 0 := by rw [f3 1 (by omega) (by omega)]; exact x21
 have x30 : hget h3 0 = .cells 41 S.cells := by rw [f3 0 (by omega) (by omega)]; exact x20
 have ldA : ∀ {hh : List Ob}, hget hh 0 = .cells 41 S.cells → load? cx hh 39 (.ptr 0 1) = some (.p S.p1) ∧ load? cx hh 39 (.ptr 0 2) = some (.p S.p2) ∧ load? cx hh 39 (.ptr 0 3) = some (.p S.p3) := fun h0 => ⟨load_one a39 h0 rfl, load_one a39 h0 rfl, load_one a39 h0 rfl⟩
 have all_eq : ints S.fr ++ ints S.fs ++ ints S.gn = ints (S.pre 3) := by rw [S.pre3, ints_app, ints_app]
 rw [all_eq] at r3 b3
 have hzd : ∀ {Q : Post} {t : Tm} {hh : List Ob} {d : List AD} {r : Option RM}, xC cx o none sc59d7 Q t hh d r = xDraw cx o none Q sc59r7 0 [hh ++ [.row 3 1 [] true 0]] [] [.sl hh.length 0 1 0 0] t (hh ++ [.row 3 1 [] true 0]) d r := fun {Q t hh d r} => xC_drawZ1 (by rfl) (by kernel_rfl) (by show buildSlice? cx hh 39 0 [] = _; exact build0 u39 s3 a3 z3)
 simp only [List.length_nil] at m1
 have b1e : v1 = .sl j1 g1 1 0 (ints S.fr).length := b1
 simp only [sc59, sc59r0, sc59r1, sc59r2, sc59r3, sc59r4, sc59r5, sc59r6, sc59r8, sc59r15, hzd, sc59r7, ↓xDraw_Z, ↓rwS, rwT, rwG, Nat.reduceEqDiff, Nat.reduceAdd, reduceCtorEq, Nat.reduceLT, ↓rwC, rwD, rwI, Nat.reduceSub, Nat.reduceLeDiff, hbox, List.cons_append, List.nil_append, List.length_cons, List.length_nil, fa0, ld0, len0, fa4, ld4, fa5, ld5, c1, c2, c3, c4, c5, c6, decide_false, fa1, ld1, cc1, incB_true d1, fa2, ld2, cc2, incB_true d2, fa3, ld3, cc3, incB_true d3, mk, appW_sl u39 u39, m1, (ldA x10).1, (ldA x10).2.1, (ldA x10).2.2, (ldA x20).1, (ldA x20).2.1, (ldA x20).2.2, (ldA x30).1, (ldA x30).2.1, (ldA x30).2.2, b1e, m2, b2, m3]
 have hj31 : j3 ≠ 1 := by omega
 have hrange : ∀ i, i < (S.pre 3).length → 2 ≤ (S.pre 3).getD i 0 ∧ (S.pre 3).getD i 0 < ((S.pgs.length : Nat) : Int) := fun i hi => by
  have hm : (S.pre 3).getD i 0 ∈ S.pre 3 := by rw [List.getD, List.getElem?_eq_getElem hi]; exact List.getElem_mem hi
  generalize (S.pre 3).getD i 0 = x at hm
  rw [S.pre3, List.mem_append, List.mem_append] at hm
  rcases hm with (q | q) | q
  ·exact incP_mem d1 q
  ·exact incP_mem d2 q
  ·exact incP_mem d3 q
 have hal : (S.pre 3).length < 1000000 := by rw [S.pre3, List.length_append, List.length_append]; omega
 refine xC_loop (fun m t h' d r => ∃ i : Nat, m = (S.pre 3).length - i ∧ i ≤ (S.pre 3).length ∧ ((S.pre 3).take i).Nodup ∧ d = [] ∧ r = none ∧ hget h' 1 = .row 4 1 (marks ((S.pre 3).take i) S.pgs.length) true 0 ∧ hget h' j3 = .row 3 1 (ints (S.pre 3)) ex3 g3 ∧
  t.get 4 = .sl 1 0 1 0 S.pgs.length ∧ t.get 5 = .sl j3 g3 1 0 (S.pre 3).length ∧ t.get 6 = .p (.int .i64 (i : Int))) (S.pre 3).length ?_ ?_
 ·refine ⟨0, rfl, by omega, List.nodup_nil, rfl, rfl, x31, r3, ?_⟩
  simp only [↓rwA, rwB, rwG, Nat.reduceEqDiff, Nat.reduceAdd, reduceCtorEq, Nat.reduceLT, true_and, b3, ints_length]
  all_goals (first | rfl | exact ⟨rfl, rfl⟩ | exact ⟨rfl, rfl, rfl⟩ | exact ⟨rfl, trivial⟩ | exact trivial)
 ·rintro m t h' d r ⟨i, rfl, hi, hnd, rfl, rfl, y1, y3, t4, t5, t6⟩
  have H5 : Sl h' 1 (.sl j3 g3 1 0 (S.pre 3).length) (ints (S.pre 3)) := by
   have := (Co1.own y3).sl' (.own _ _)
   rw [ints_length] at this; exact this
  have hl1 := hget_flat_lt (h := h') (i := 1) (by rw [y1]; rfl)
  by_cases hlt : (i : Int) < (((S.pre 3).length : Nat) : Int)
  ·have hil : i < (S.pre 3).length := by omega
   obtain ⟨ja, jd⟩ := int_at (k := i) H5 u39 hil
   obtain ⟨x0, xn⟩ := hrange i hil
   have w2 := one64 (show i < 4611686018427387904 by omega)
   have hxt : ((S.pre 3).getD i 0).toNat < S.pgs.length := by omega
   have hxc : (((S.pre 3).getD i 0).toNat : Int) = (S.pre 3).getD i 0 := by omega
   have hM : Sl h' 1 (.sl 1 0 1 0 S.pgs.length) (marks ((S.pre 3).take i) S.pgs.length) := by
    have := (Co1.own y1).sl' (.own _ _)
    rw [marks_len] at this; exact this
   have ma : indexAddr? cx 109 (.sl 1 0 1 0 S.pgs.length) (.p (.int .i64 ((S.pre 3).getD i 0))) = some (rdS (.sl 1 0 1 0 S.pgs.length) ((S.pre 3).getD i 0).toNat) := hM.at (sz := 0) u109 s4 (by omega) (by rw [marks_len]; exact xn)
   have md : load? cx h' 4 (rdS (.sl 1 0 1 0 S.pgs.length) ((S.pre 3).getD i 0).toNat) = some (.p (.bool (decide ((S.pre 3).getD i 0 ∈ (S.pre 3).take i)))) := by
    have e1 : (marks ((S.pre 3).take i) S.pgs.length).getD ((S.pre 3).getD i 0).toNat .nilp = .bool (decide ((S.pre 3).getD i 0 ∈ (S.pre 3).take i)) := by
     rw [List.getD, marks_get hxt, hxc]; rfl
    rw [hM.load (c := cx) (by rw [marks_len]; exact hxt) (by rw [e1]; exact eok_bool a4), e1]
   have snoc : (S.pre 3).take (i + 1) = (S.pre 3).take i ++ [(S.pre 3).getD i 0] := take_snoc hil
   by_cases b3 : (S.pre 3).getD i 0 ∈ (S.pre 3).take i
   ·have hb : S.soundB = false := Spc.soundB_f fun hs => by
     have h3 := hs.2.2
     rw [← List.take_append_drop (i + 1) (S.pre 3), List.nodup_append] at h3
     have h4 := h3.1
     rw [snoc, List.nodup_append] at h4
     exact h4.2.2 _ b3 _ (List.mem_singleton.2 rfl) rfl
    simp only [sc59r0, sc59r1, sc59r2, sc59r3, sc59r4, sc59r5, sc59r6, sc59r7, sc59r8, sc59r9, sc59r10, sc59r11, sc59r12, sc59r13, sc59l14, sc59r15, sc59, ↓rwS, rwT, rwG, Nat.reduceEqDiff, Nat.reduceAdd, reduceCtorEq, Nat.reduceLT, t4, t5, t6, H5.len u39, ints_length, hlt, decide_true, ja, jd, ma, md, b3, hb]
   ·have nd3 : ((S.pre 3).take (i + 1)).Nodup := by
     rw [snoc, List.nodup_append]
     refine ⟨hnd, by simp, fun a ha b hb => ?_⟩
     rw [List.mem_singleton.1 hb]
     intro q; subst q; exact b3 ha
    have st : store? cx h' 4 (rdS (.sl 1 0 1 0 S.pgs.length) ((S.pre 3).getD i 0).toNat) (.p (.bool true)) =
      .wh undefA (hset h' 1 (.row 4 1 (marks ((S.pre 3).take (i + 1)) S.pgs.length) true 0)) := by
     have := store_el (c := cx) (h := h') (i := 1) (g := 0) (v := .bool true) s4 y1 (marks_get hxt) (fun l q => by cases q) rfl rfl
     show store? cx _ 4 (.el 1 0 1 (0 + ((S.pre 3).getD i 0).toNat) 0) _ = _
     rw [Nat.zero_add, this, marks_set (by omega), ← snoc]
    simp only [sc59r0, sc59r1, sc59r2, sc59r3, sc59r4, sc59r5, sc59r6, sc59r7, sc59r8, sc59r9, sc59r10, sc59r11, sc59r12, sc59r13, sc59l14, sc59r15, sc59, ↓rwS, rwT, rwG, Nat.reduceEqDiff, Nat.reduceAdd, reduceCtorEq, Nat.reduceLT, t4, t5, t6, H5.len u39, ints_length, hlt, decide_true, decide_false, ja, jd, ma, md, b3, st, w2, true_and]
    refine ⟨_, ?_, i + 1, rfl, by omega, nd3, ?_, ?_, ?_⟩
    ·omega
    ·rw [hget_hset _ _ _ _ hl1, if_pos rfl]
    ·rw [hget_hset _ _ _ _ hl1, if_neg hj31]; exact y3
    ·all_goals (first | rfl | exact ⟨rfl, rfl⟩ | exact ⟨rfl, rfl, rfl⟩ | exact ⟨rfl, trivial⟩ | exact trivial)
  ·have hil : (S.pre 3).take i = S.pre 3 := List.take_of_length_le (by omega)
   rw [hil] at hnd
   have hb : S.soundB = true := Spc.soundB_t ⟨okN, hinc, hnd⟩
   simp only [sc59r0, sc59r1, sc59r2, sc59r3, sc59r4, sc59r5, sc59r6, sc59r7, sc59r8, sc59r9, sc59r10, sc59r11, sc59r12, sc59r13, sc59l14, sc59r15, sc59, ↓rwS, rwT, rwG, Nat.reduceEqDiff, Nat.reduceAdd, reduceCtorEq, Nat.reduceLT, t4, t5, t6, H5.len u39, ints_length, hlt, decide_false, hb]
   all_goals (first | rfl | exact trivial)
end
end Go.Proofs
namespace Go.Ai
theorem store_cell {c : Ctx} {h : List Ob} {ty e : TypeId} {off i : Nat} {cs : List AV} {v : AV} (hs : sizeOf? c ty = some 1) (hi : hget h i = .cells e cs) (hv : v.cells? = some [v]) (ho : off < cs.length) :
  store? c h ty (.ptr i off) v = .ws undefA i (.cells e (cs.set off v)) := by
 unfold store?
 simp only [hs]
 unfold storePtr
 simp only [hv, hi, List.length_cons, List.length_nil, Nat.zero_add, Nat.beq_refl, cond]
 unfold overK
 rw [Nat.ble_eq_true_of_le (show off + [v].length ≤ cs.length by simp; omega)]
 simp only [cond, lnf_eq, List.length_cons, List.length_nil, Nat.zero_add]
 congr 2
 rw [List.set_eq_take_append_cons_drop, if_pos ho]; rfl
theorem Co1.one_cell {h v c sz xs} (H : Co1 h v c) (hs : IsS sz c xs) : v.cells? = some [v] := by
 cases hs with
 | nil => cases H with | p => rfl
 | vec => cases H <;> rfl
 | own => cases H with | own => rfl
theorem Co1.hset {h v c i o} (H : Co1 h v c) (hf : Ai.flat (hget h i) = false) : Co1 (hset h i o) v c := by
 refine H.keep fun j hj => ?_
 have hj2 := H.flat j hj
 have hne : j ≠ i := by rintro rfl; rw [hj2] at hf; cases hf
 by_cases q : i < h.length
 ·rw [hget_hset _ _ _ _ q, if_neg hne]
 ·have : Ai.hset h i o = h := by
   rw [hset_eq, List.set_eq_of_length_le (by omega)]
  rw [this]
end Go.Ai
namespace Go.Proofs
open Go Go.Ai
theorem u171 : cx.under 171 = some (.slice 48) := by kernel_rfl
theorem b101 (a b c d e f : PV) : build? cx 101 [(0, .p (.agg [a, b, c, d, e, f]))] = some (.p (.agg [a, b, c, d, e, f])) := by kernel_rfl
def Spc.cvs (S : Spc) : List CV := [.own 79 10 S.pgs, clV 3 1 (.pv S.p1) (ints S.fr), clV 3 1 (.pv S.p2) (ints S.fs), clV 3 1 (.pv S.p3) (ints S.gn), .pv (.int .i64 S.ver), .pv (.int .i64 S.tr)]
theorem hget_cells_lt {h i e cs} (H : hget h i = .cells e cs) : i < h.length := by
 rw [hget_eq] at H
 by_cases q : i < h.length
 ·exact q
 ·rw [List.getElem?_eq_none (by omega)] at H; cases H
section
variable {o : Orc} (ho : FreeT o)
include ho
theorem call18 {S : Spc} (O : SpcOk S) {h dst t d r K Q} : callW cx o dst t h d r (some (.fn 18 [.p S.v])) K Q = K (put dst (.p (.int .i64 S.soundE)) t) h d r :=
 callW_ret ext18 (cs_p (f := 18) (ps := [S.v]) rfl (sound18 ho O))
theorem open48_f {S : Spc} (O : SpcOk S) (hs : ¬S.Sound) : Ct cx o (.fn 48 [.p S.v, .p .nils]) [] (fun e _ => e = .pan (.p (failV 2))) := by
 refine ct48 (ho _ _ _ (by decide) (by decide)) rfl ?_
 have ldS : load? cx [.cells 41 S.cells] 41 (.ptr 0 0) = some (.p S.v) := (load_whole a41 s41 rfl rfl).trans rfl
 have h2 : ¬((2 : Int) = 0) := by decide
 simp only [sc48, sc48r0, sc48r1, ↓rwS, rwT, rwG, Nat.reduceEqDiff, Nat.reduceAdd, reduceCtorEq, Nat.reduceLT, hbox, List.nil_append, List.length_nil, ldS, call18 ho O, Spc.soundE_f hs, h2, decide_false, call53_f ho]
 all_goals (first | rfl | exact ⟨rfl, rfl, rfl⟩ | exact ⟨rfl, rfl⟩ | trivial)
theorem clone_cs2 {h v cv xs} (H : Co1 h v cv) (hs : IsS 10 cv xs) (hl : xs.length < 1000000) :
  ∃ v1 ext, CS cx o (.fn 102 [v]) h (.ret v1) (h ++ ext) ∧ Co1 (h ++ ext) v1 (clV 79 10 cv xs) ∧ ∀ i ∈ ids1 v1, h.length ≤ i := by
 obtain ⟨e, ext, h1, h2, h3⟩ := cs_valF True (c := cx) (o := o) (f := 102) (h := h) («as» := [v]) (ps := [cv]) (qe := .val (clV 79 10 cv xs)) (.cons (.one H) .nil) fun h0 as0 H0 => by
  obtain ⟨v0, rfl, hv0⟩ := l2_1 H0
  obtain ⟨e, h', hr, a, b, c⟩ := clone102 ho (hv0.one_s hs) hs hl
  exact ⟨e, h', hr, a, b, fun _ => by obtain ⟨v, q, q1, q2, q3⟩ := c trivial; exact ⟨v, _, q1, q2, q3⟩⟩
 obtain ⟨v1, rfl, hv1⟩ := h2.val_inv
 obtain ⟨v2, q1, q2⟩ := h3 trivial
 cases q1
 have hc := hv1.one_s (clV_is hs)
 refine ⟨v1, ext, h1, hc, fun i hi => q2 i ?_⟩
 rw [hc.idsA]; exact hi
theorem open48_t (hI : HasIns o) {S : Spc} (O : SpcOk S) (hs : S.Sound) : Ct cx o (.fn 48 [.p S.v, .p .nils]) [] (fun e h1 => CoE h1 e (.ptr 101 S.cvs)) := by
 refine ct48 (ho _ _ _ (by decide) (by decide)) rfl ?_
 have hbox2 : ∀ hh : List Ob, boxW hh 101 (.p S.v) = .wn (.ptr hh.length 0) (.cells 101 S.cells) := fun hh => rfl
 have ldS : load? cx [.cells 41 S.cells] 41 (.ptr 0 0) = some (.p S.v) := (load_whole a41 s41 rfl rfl).trans rfl
 have bS : build? cx 101 [(0, .p S.v)] = some (.p S.v) := b101 _ _ _ _ _ _
 have l0 := O.l0
 have l1 := O.l1
 have l2 := O.l2
 have l3 := O.l3
 have hp2 : 2 ≤ S.pgs.length := hs.1.1
 have hcl : clV 79 10 (.pv S.p0) S.pgs = .own 79 10 S.pgs := by
  have := O.h0
  generalize S.p0 = p at this
  generalize S.pgs = xs at this hp2
  cases this with
  | nil => simp at hp2
  | vec => rfl
 -- pages
 obtain ⟨v0, ext1, q1, c0, n0⟩ := clone_cs2 ho (h := [.cells 41 S.cells, .cells 101 S.cells]) (Co1.p S.p0) O.h0.is (by omega)
 rw [hcl] at c0
 have ld0 : load? cx [.cells 41 S.cells, .cells 101 S.cells] 38 (.ptr 0 0) = some (.p S.p0) := load_one a38 rfl rfl
 have y1 : hget ([.cells 41 S.cells, .cells 101 S.cells] ++ ext1) 1 = .cells 101 S.cells := rfl
 have y0 : hget ([.cells 41 S.cells, .cells 101 S.cells] ++ ext1) 0 = .cells 41 S.cells := rfl
 have st0 := store_cell (c := cx) (off := 0) s38 y1 (c0.one_cell (.own _ _)) (show 0 < 6 by decide)
 have c0' := c0.hset (i := 1) (o := .cells 101 (S.cells.set 0 v0)) (by rw [y1]; rfl)
 have hl1 : 1 < ([Ob.cells 41 S.cells, Ob.cells 101 S.cells] ++ ext1).length := by simp
 have z1 : hget (hset ([.cells 41 S.cells, .cells 101 S.cells] ++ ext1) 1 (.cells 101 (S.cells.set 0 v0))) 1 = .cells 101 (S.cells.set 0 v0) := by rw [hget_hset _ _ _ _ hl1, if_pos rfl]
 have z0 : hget (hset ([.cells 41 S.cells, .cells 101 S.cells] ++ ext1) 1 (.cells 101 (S.cells.set 0 v0))) 0 = .cells 41 S.cells := by rw [hget_hset _ _ _ _ hl1, if_neg (by decide)]; exact y0
 generalize hM1 : [.cells 41 S.cells, .cells 101 S.cells] ++ ext1 = M1 at *
 generalize hM2 : hset M1 1 (.cells 101 (S.cells.set 0 v0)) = M2 at *
 -- the lists
 obtain ⟨w1, ext2, q2, c1, n1⟩ := clone_cs ho hI (h := M2) (Co1.p S.p1) O.h1.is (by omega)
 have z01 := (hget_appL ext2 0 (hget_cells_lt z0)).trans z0
 have z11 := (hget_appL ext2 1 (hget_cells_lt z1)).trans z1
 have c01 := c0'.ext ext2
 generalize hM3 : M2 ++ ext2 = M3 at *
 obtain ⟨w2, ext3, q3, c2, n2⟩ := clone_cs ho hI (h := M3) (Co1.p S.p2) O.h2.is (by omega)
 have z02 := (hget_appL ext3 0 (hget_cells_lt z01)).trans z01
 have z12 := (hget_appL ext3 1 (hget_cells_lt z11)).trans z11
 have c02 := c01.ext ext3
 have c12 := c1.ext ext3
 generalize hM4 : M3 ++ ext3 = M4 at *
 obtain ⟨w3, ext4, q4, c3, n3⟩ := clone_cs ho hI (h := M4) (Co1.p S.p3) O.h3.is (by omega)
 have z03 := (hget_appL ext4 0 (hget_cells_lt z02)).trans z02
 have z13 := (hget_appL ext4 1 (hget_cells_lt z12)).trans z12
 have c03 := c02.ext ext4
 have c13 := c12.ext ext4
 have c23 := c2.ext ext4
 generalize hM5 : M4 ++ ext4 = M5 at *
 have ldA : ∀ {hh : List Ob}, hget hh 0 = .cells 41 S.cells → load? cx hh 39 (.ptr 0 1) = some (.p S.p1) ∧ load? cx hh 39 (.ptr 0 2) = some (.p S.p2) ∧ load? cx hh 39 (.ptr 0 3) = some (.p S.p3) := fun h0 => ⟨load_one a39 h0 rfl, load_one a39 h0 rfl, load_one a39 h0 rfl⟩
 have st1 := store_cell (c := cx) (off := 1) s39 z13 (c13.one_cell (clV_is O.h1.is)) (show 1 < 6 by decide)
 have hf5 : flat (hget M5 1) = false := by rw [z13]; rfl
 have h5l := hget_cells_lt z13
 have z14 : hget (hset M5 1 (.cells 101 ((S.cells.set 0 v0).set 1 w1))) 1 = .cells 101 ((S.cells.set 0 v0).set 1 w1) := by rw [hget_hset _ _ _ _ h5l, if_pos rfl]
 have st2 := store_cell (c := cx) (off := 2) s39 z14 (c23.one_cell (clV_is O.h2.is)) (show 2 < 6 by decide)
 have z15 : hget (hset M5 1 (.cells 101 (((S.cells.set 0 v0).set 1 w1).set 2 w2))) 1 = .cells 101 (((S.cells.set 0 v0).set 1 w1).set 2 w2) := by rw [hget_hset _ _ _ _ h5l, if_pos rfl]
 have st3 := store_cell (c := cx) (off := 3) s39 z15 (c3.one_cell (clV_is O.h3.is)) (show 3 < 6 by decide)
 have z16 : hget (hset M5 1 (.cells 101 ((((S.cells.set 0 v0).set 1 w1).set 2 w2).set 3 w3))) 1 = .cells 101 ((((S.cells.set 0 v0).set 1 w1).set 2 w2).set 3 w3) := by rw [hget_hset _ _ _ _ h5l, if_pos rfl]
 have hfin : CoE (hset M5 1 (.cells 101 ((((S.cells.set 0 v0).set 1 w1).set 2 w2).set 3 w3))) (.ret (.ptr 1 0)) (.ptr 101 S.cvs) :=
  .ptr z16 (.cons (c03.hset hf5) (.cons (c13.hset hf5) (.cons (c23.hset hf5) (.cons (c3.hset hf5) (.cons (.p _) (.cons (.p _) .nil))))))
 simp only [sc48, sc48r0, sc48r1, sc48r2, sc48r3, sc48d4_x, sc48r4, sc48r5, sc48r11, sc48r19, ↓rwS, rwT, rwG, Nat.reduceEqDiff, Nat.reduceAdd, reduceCtorEq, Nat.reduceLT, ↓rwC, rwD, rwI, Nat.reduceSub, Nat.reduceLeDiff, hbox, List.cons_append, List.nil_append, List.length_cons, List.length_nil, ldS, call18 ho O, Spc.soundE_t hs, decide_true, call53_t ho, bS, hbox2, fa0, fA, ld0, callW_ret ext102 q1, hM1, st0, hM2, fa1, fa2, fa3, (ldA z0).1, (ldA z0).2.1, (ldA z0).2.2, callW_ret ext103 q2, (ldA z01).1, (ldA z01).2.1, (ldA z01).2.2, callW_ret ext103 q3, (ldA z02).1, (ldA z02).2.1, (ldA z02).2.2, callW_ret ext103 q4, (ldA z03).1, (ldA z03).2.1, (ldA z03).2.2, st1, st2, st3, hset_hset, len_nils u171]
 refine xC_loop (fun n t h' d r => d = [] ∧ r = none ∧ h' = hset M5 1 (.cells 101 ((((S.cells.set 0 v0).set 1 w1).set 2 w2).set 3 w3)) ∧ t.get 1 = .p .nils ∧ t.get 5 = .ptr 1 0 ∧ t.get 46 = .p (.int .i64 ((0 : Nat) : Int)) ∧ t.get 47 = .p (.int .i64 0)) 0 ?_ ?_
 ·refine ⟨rfl, rfl, rfl, ?_⟩
  simp only [↓rwA, rwB, rwG, Nat.reduceEqDiff, Nat.reduceAdd, reduceCtorEq, Nat.reduceLT, true_and]
  all_goals (first | rfl | exact ⟨rfl, rfl⟩ | exact ⟨rfl, rfl, rfl⟩ | exact trivial)
 ·rintro n t h' d r ⟨rfl, rfl, rfl, t1, t5, t46, t47⟩
  have hlt : ¬((0 : Int) < ((0 : Nat) : Int)) := by decide
  simp only [sc48, sc48l10, sc48r6, sc48r11, sc48r19, ↓rwS, rwT, rwG, Nat.reduceEqDiff, Nat.reduceAdd, reduceCtorEq, Nat.reduceLT, t1, t5, t46, t47, hlt, decide_false, len_nils u171]
  refine xC_loop (fun n t h' d r => d = [] ∧ r = none ∧ h' = hset M5 1 (.cells 101 ((((S.cells.set 0 v0).set 1 w1).set 2 w2).set 3 w3)) ∧ t.get 5 = .ptr 1 0 ∧ t.get 77 = .p (.int .i64 ((0 : Nat) : Int)) ∧ t.get 78 = .p (.int .i64 0)) 0 ?_ ?_
  ·refine ⟨rfl, rfl, rfl, ?_⟩
   simp only [↓rwA, rwB, rwG, Nat.reduceEqDiff, Nat.reduceAdd, reduceCtorEq, Nat.reduceLT, true_and, t5]
   all_goals (first | rfl | exact ⟨rfl, rfl⟩ | exact ⟨rfl, rfl, rfl⟩ | exact trivial)
  ·rintro n t h' d r ⟨rfl, rfl, rfl, t5, t77, t78⟩
   simp only [sc48l18, sc48r12, sc48r19, ↓rwS, rwT, rwG, Nat.reduceEqDiff, Nat.reduceAdd, reduceCtorEq, Nat.reduceLT, t5, t77, t78, hlt, decide_false]
   exact hfin
end
def FU (h h' : List Ob) : Prop := h.length ≤ h'.length ∧ ∀ j, 0 < j → j < h.length → flat (hget h j) = true → flat (hget h' j) = true
theorem FU.refl (h) : FU h h := ⟨Nat.le_refl _, fun _ _ _ q => q⟩
theorem FU.trans {a b c} (p : FU a b) (q : FU b c) : FU a c := ⟨Nat.le_trans p.1 q.1, fun j h1 h2 h3 => q.2 j h1 (Nat.lt_of_lt_of_le h2 p.1) (p.2 j h1 h2 h3)⟩
theorem FU.ext (h e : List Ob) : FU h (h ++ e) := ⟨by rw [List.length_append]; omega, fun j _ h2 h3 => by rw [hget_appL _ _ h2]; exact h3⟩
theorem FU.set (h : List Ob) (o) : FU h (hset h 0 o) := ⟨by rw [hset_length]; exact Nat.le_refl _, fun j h1 h2 h3 => by
 rw [hget_hset _ _ _ _ (by omega), if_neg (by omega)]; exact h3⟩
theorem withV_is {cv : CV} {l : List Int} {x : Int} (hs : IsS 1 cv (ints l)) : IsS 1 (withV cv l x) (ints (withL l x)) := by
 unfold withV withL
 by_cases q : x ∈ l
 ·rw [if_pos q, if_pos q]; exact hs
 ·rw [if_neg q, if_neg q]; exact .own _ _
def zeroPage : PV := .agg [.int .i64 0, .int .i64 0, .int .i64 0, .int .i64 0, .int .i64 0, .bool false, .nils, .int .i64 0, .str [], .nils]
theorem b79 : build? cx 79 [] = some (.p zeroPage) := by kernel_rfl
theorem l2_6 {h : List Ob} {cs : List AV} {a b c d e f : CV} (H : L2 (Co1 h) cs [a, b, c, d, e, f]) : ∃ x0 x1 x2 x3 x4 x5, cs = [x0, x1, x2, x3, x4, x5] ∧ Co1 h x0 a ∧ Co1 h x1 b ∧ Co1 h x2 c ∧ Co1 h x3 d ∧ Co1 h x4 e ∧ Co1 h x5 f := by
 cases H with
 | cons h0 H => cases H with
  | cons h1 H => cases H with
   | cons h2 H => obtain ⟨x3, x4, x5, rfl, h3, h4, h5⟩ := l2_3 H; exact ⟨_, _, _, _, _, _, rfl, h0, h1, h2, h3, h4, h5⟩
theorem tail_co {h i g ex} {x : Int} {l : List Int} (hr : hget h i = .row 3 1 (ints (x :: l)) ex g) : Co1 h (tailV i g 1 1 (x :: l).length) (.pv (.vec 1 (ints l))) := by
 unfold tailV
 cases hb : Nat.beq 1 (x :: l).length with
 | true =>
  have := Nat.eq_of_beq_eq_true hb
  have : l = [] := by cases l with | nil => rfl | cons a m => simp at this
  subst this
  exact .p _
 | false =>
  refine .sl (xs := ints (x :: l)) ?_ ?_
  ·unfold Ai.rowAt
   rw [hr]
   simp only [Nat.beq_refl, Bool.and_self, cond]
  ·unfold sub?
   rw [Nat.ble_eq_true_of_le (by rw [ints_length]; simp; omega)]
   simp only [cond]
   congr 1
   show ((ints (x :: l)).drop 1).take _ = _
   rw [show (ints (x :: l)).drop 1 = ints l from rfl, List.take_of_length_le (by rw [ints_length]; simp)]
theorem disj10 {h x0 x e0 ps c l} (H0 : Co1 h x0 (.own e0 10 ps)) (H : Co1 h x c) (hs : IsS 1 c l) : ∀ j ∈ ids1 x, j ∉ ids1 x0 := by
 intro j hj q
 generalize hc0 : CV.own e0 10 ps = c0 at H0
 cases H0 with
 | p => cases hc0
 | full => cases hc0
 | sl => cases hc0
 | @own i g e sz xs ex hr =>
  cases hc0
  have hji : j = i := List.mem_singleton.1 q
  subst hji
  cases hs with
  | nil => cases H with | p => cases hj
  | vec => cases H with
   | p => cases hj
   | full => cases hj
   | @sl i g' _ off len xs ys hr' hs' =>
    have hji : j = i := List.mem_singleton.1 hj
    subst hji
    rcases rowAt_cases hr' with ⟨e, ex, h1⟩ | h1 <;> rw [hr] at h1 <;> cases h1
  | own => cases H with
   | own hr' =>
    have hji := List.mem_singleton.1 hj
    subst hji
    rw [hr] at hr'; cases hr'
section
variable {o : Orc} (ho : FreeT o) (hI : HasIns o)
include ho hI
theorem with_cs {h v cv l} {x : Int} (H : Co1 h v cv) (hs : IsS 1 cv (ints l)) (hi : Inc l) (hl : l.length < 100000) :
  ∃ v1 ext, CS cx o (.fn 104 [v, .p (.int .i64 x)]) h (.ret v1) (h ++ ext) ∧ Co1 (h ++ ext) v1 (withV cv l x) := by
 obtain ⟨e, ext, h1, h2⟩ := cs_val (c := cx) (o := o) (f := 104) (h := h) («as» := [v, .p (.int .i64 x)]) (ps := [cv, .pv (.int .i64 x)]) (qe := .val (withV cv l x)) (.cons (.one H) (.cons (.one (.p _)) .nil)) fun h0 as0 H0 => by
  obtain ⟨v0, y, rfl, hv0, hy⟩ := l2_2 H0
  have hy' := hy.pv_int
  subst hy'
  exact with104 ho hI (hv0.one_s hs) hs hi hl
 obtain ⟨v1, rfl, hv1⟩ := h2.val_inv
 exact ⟨v1, ext, h1, hv1.one_s (withV_is hs)⟩
theorem take49_a {h0 cs0 pgs fs c2 c3 ver tr} {x : Int} {l : List Int} (h00 : hget h0 0 = .cells 101 cs0) (H : L2 (Co1 h0) cs0 [.own 79 10 pgs, .own 3 1 (ints (x :: l)), c2, c3, .pv (.int .i64 ver), .pv (.int .i64 tr)])
  (h2 : IsS 1 c2 (ints fs)) (i2 : Inc fs) (l1 : l.length < 100000) (l2 : fs.length < 100000) :
  Ct cx o (.fn 49 [.ptr 0 0]) h0 (fun e h1 => FU h0 h1 ∧ (∃ cs1, hget h1 0 = .cells 101 cs1 ∧ L2 (Co1 h1) cs1 [.own 79 10 pgs, .own 3 1 (ints l), withV c2 fs x, c3, .pv (.int .i64 ver), .pv (.int .i64 tr)]) ∧ CoE h1 e (.val (.pv (.int .i64 x)))) := by
 refine ct49 (ho _ _ _ (by decide) (by decide)) rfl ?_
 obtain ⟨x0, x1, x2, x3, x4, x5, rfl, q0, q1, q2, q3, q4, q5⟩ := l2_6 H
 have hl0 := hget_cells_lt h00
 have hnf : flat (hget h0 0) = false := by rw [h00]; rfl
 have d0 : load? cx h0 38 (.ptr 0 0) = some x0 := load_one a38 h00 rfl
 have d1 : load? cx h0 39 (.ptr 0 1) = some x1 := load_one a39 h00 rfl
 have e0 := (q0.sl' (.own _ _)).len u38
 have e1 := (q1.sl' (.own _ _)).len u39
 have hpos : (0 : Int) < (((ints (x :: l)).length : Nat) : Int) := by rw [ints_length]; simp
 have at0 := int_at (k := 0) (q1.sl' (.own _ _)) u39 (by simp)
 have ia : indexAddr? cx 39 x1 (.p (.int .i64 0)) = some (rdS x1 0) := at0.1
 have ld : load? cx h0 3 (rdS x1 0) = some (.p (.int .i64 x)) := at0.2
 obtain ⟨i, g, ex, hx1, hr⟩ : ∃ i g ex, x1 = .sl i g 1 0 (x :: l).length ∧ hget h0 i = .row 3 1 (ints (x :: l)) ex g := by
  have := own_inv q1
  generalize hxs : ints (x :: l) = xs at this
  cases this with
  | nil => cases hxs
  | row hr => exact ⟨_, _, _, by rw [← hxs, ints_length], by rw [hr]⟩
 have sf : sliceW cx h0 39 x1 (some (.p (.int .i64 1))) none = .w (tailV i g 1 1 (x :: l).length) := by
  rw [hx1]; exact sl_from (sz := 0) (k := 1) u39 s3 (by simp) (by decide)
 obtain ⟨v1, ext1, p1, k1, n1⟩ := clone_cs ho hI (tail_co hr) (.vec _) (by omega)
 have k1 : Co1 (h0 ++ ext1) v1 (.own 3 1 (ints l)) := k1
 have y1 := (hget_appL ext1 0 hl0).trans h00
 have st1 := store_cell (c := cx) (off := 1) s39 y1 (k1.one_cell (.own _ _)) (show 1 < 6 by decide)
 have hnf1 : flat (hget (h0 ++ ext1) 0) = false := by rw [y1]; rfl
 have hl1 := hget_cells_lt y1
 have z1 : hget (hset (h0 ++ ext1) 0 (.cells 101 ([x0, x1, x2, x3, x4, x5].set 1 v1))) 0 = .cells 101 [x0, v1, x2, x3, x4, x5] := by rw [hget_hset _ _ _ _ hl1, if_pos rfl]; rfl
 have r0 := (q0.ext ext1).hset (o := .cells 101 ([x0, x1, x2, x3, x4, x5].set 1 v1)) hnf1
 have r1 := k1.hset (o := .cells 101 ([x0, x1, x2, x3, x4, x5].set 1 v1)) hnf1
 have r2 := (q2.ext ext1).hset (o := .cells 101 ([x0, x1, x2, x3, x4, x5].set 1 v1)) hnf1
 have r3 := (q3.ext ext1).hset (o := .cells 101 ([x0, x1, x2, x3, x4, x5].set 1 v1)) hnf1
 have u1 := (FU.ext h0 ext1).trans (FU.set (h0 ++ ext1) (.cells 101 ([x0, x1, x2, x3, x4, x5].set 1 v1)))
 generalize hM2 : hset (h0 ++ ext1) 0 (.cells 101 ([x0, x1, x2, x3, x4, x5].set 1 v1)) = M2 at *
 have d2 : load? cx M2 39 (.ptr 0 2) = some x2 := load_one a39 z1 rfl
 obtain ⟨v2, ext2, p2, k2⟩ := with_cs ho hI (x := x) r2 h2 i2 l2
 have y2 := (hget_appL ext2 0 (hget_cells_lt z1)).trans z1
 have st2 := store_cell (c := cx) (off := 2) s39 y2 (k2.one_cell (withV_is h2)) (show 2 < 6 by decide)
 have hnf2 : flat (hget (M2 ++ ext2) 0) = false := by rw [y2]; rfl
 have hl2 := hget_cells_lt y2
 have q4' : x4 = .p (.int .i64 ver) := by cases q4; rfl
 have q5' : x5 = .p (.int .i64 tr) := by cases q5; rfl
 have hfin : L2 (Co1 (hset (M2 ++ ext2) 0 (.cells 101 ([x0, v1, x2, x3, x4, x5].set 2 v2)))) [x0, v1, v2, x3, x4, x5] [.own 79 10 pgs, .own 3 1 (ints l), withV c2 fs x, c3, .pv (.int .i64 ver), .pv (.int .i64 tr)] :=
  .cons ((r0.ext _).hset hnf2) (.cons ((r1.ext _).hset hnf2) (.cons (k2.hset hnf2) (.cons ((r3.ext _).hset hnf2) (.cons (by rw [q4']; exact .p _) (.cons (by rw [q5']; exact .p _) .nil)))))
 simp only [sc49r0, sc49r1, sc49r2, sc49r3, sc49r4, sc49r5, sc49r6, sc49r7, sc49r8, sc49, ↓rwS, rwT, rwG, Nat.reduceEqDiff, Nat.reduceAdd, reduceCtorEq, Nat.reduceLT, fA, fa0, fa1, fa2, d0, d1, e0, e1, hpos, decide_true, ia, ld, sf, callW_ret ext103 p1, st1, hM2, d2, callW_ret ext104 p2, st2]
 refine ⟨u1.trans ((FU.ext M2 ext2).trans (FU.set _ _)), ⟨[x0, v1, v2, x3, x4, x5], ?_, hfin⟩, .val (.one (.p _))⟩
 rw [hget_hset _ _ _ _ hl2, if_pos rfl]; rfl
theorem take49_b {h0 cs0 pgs fs c1 c2 c3 ver tr} (h00 : hget h0 0 = .cells 101 cs0) (H : L2 (Co1 h0) cs0 [.own 79 10 pgs, c1, c2, c3, .pv (.int .i64 ver), .pv (.int .i64 tr)])
  {gn : List Int} (h1 : IsS 1 c1 (ints [])) (h2 : IsS 1 c2 (ints fs)) (h3 : IsS 1 c3 (ints gn)) (i2 : Inc fs) (lp : pgs.length < 4096) (hp : pgs ≠ []) (l2 : fs.length < 100000) :
  Ct cx o (.fn 49 [.ptr 0 0]) h0 (fun e h1 => FU h0 h1 ∧ (∃ cs1, hget h1 0 = .cells 101 cs1 ∧ L2 (Co1 h1) cs1 [.own 79 10 (pgs ++ [zeroPage]), c1, withV c2 fs (pgs.length : Nat), c3, .pv (.int .i64 ver), .pv (.int .i64 tr)]) ∧ CoE h1 e (.val (.pv (.int .i64 (pgs.length : Nat))))) := by
 refine ct49 (ho _ _ _ (by decide) (by decide)) rfl ?_
 obtain ⟨x0, x1, x2, x3, x4, x5, rfl, q0, q1, q2, q3, q4, q5⟩ := l2_6 H
 have hl0 := hget_cells_lt h00
 have d0 : load? cx h0 38 (.ptr 0 0) = some x0 := load_one a38 h00 rfl
 have d1 : load? cx h0 39 (.ptr 0 1) = some x1 := load_one a39 h00 rfl
 have e0 := (q0.sl' (.own _ _)).len u38
 have e1 := (q1.sl' h1).len u39
 have hpos : ¬((0 : Int) < (((ints []).length : Nat) : Int)) := by decide
 have hp4 : ((pgs.length : Nat) : Int) < 4096 := by omega
 have hb := build1 (c := cx) (h := h0) (v := zeroPage) u38 s79 a79 z79 rfl rfl rfl
 have h00' := (hget_appL [.row 79 10 [zeroPage] true 0] 0 hl0).trans h00
 obtain ⟨v1, M1, a1, a2, a3', a4, a5, a6⟩ := app_own (c := cx) (o := o) (rd := none) ((own_inv q0).ext [.row 79 10 [zeroPage] true 0]) s79 (by decide) (x := .sl h0.length 0 10 0 1) (elems_sl1 (xs := [zeroPage]) (hget_new _ _)) rfl (by simp) (room_le room79 (by simp; omega))
 have hne : ∀ j ∈ ids1 x0, j ≠ 0 := fun j hj q => by
  subst q
  have := q0.flat 0 hj
  rw [h00] at this; cases this
 have hn0 : 0 ∉ ids1 x0 := fun q => hne 0 q rfl
 have y1 : hget M1 0 = .cells 101 [x0, x1, x2, x3, x4, x5] := by rw [a3' 0 (by rw [List.length_append]; omega) hn0]; exact h00'
 have k1 : Co1 M1 v1 (.own 79 10 (pgs ++ [zeroPage])) := a1.co1 (by
  intro q
  generalize hxs : pgs ++ [zeroPage] = xs at a1
  cases a1 with
  | nil => simp at hxs
  | row => cases q)
 have keep : ∀ {x c l}, Co1 h0 x c → IsS 1 c l → Co1 M1 x c := fun {x c l} hx hs => (hx.ext [.row 79 10 [zeroPage] true 0]).keep fun j hj => a3' j (ids1_lt (hx.ext [.row 79 10 [zeroPage] true 0]) j hj) (disj10 q0 hx hs j hj)
 have hnf1 : flat (hget M1 0) = false := by rw [y1]; rfl
 have st1 := store_cell (c := cx) (off := 0) s38 y1 (k1.one_cell (.own _ _)) (show 0 < 6 by decide)
 have hl1 := hget_cells_lt y1
 have z1 : hget (hset M1 0 (.cells 101 ([x0, x1, x2, x3, x4, x5].set 0 v1))) 0 = .cells 101 [v1, x1, x2, x3, x4, x5] := by rw [hget_hset _ _ _ _ hl1, if_pos rfl]; rfl
 have r0 := k1.hset (o := .cells 101 ([x0, x1, x2, x3, x4, x5].set 0 v1)) hnf1
 have r1 := (keep q1 h1).hset (o := .cells 101 ([x0, x1, x2, x3, x4, x5].set 0 v1)) hnf1
 have r2 := (keep q2 h2).hset (o := .cells 101 ([x0, x1, x2, x3, x4, x5].set 0 v1)) hnf1
 have r3 := (keep q3 h3).hset (o := .cells 101 ([x0, x1, x2, x3, x4, x5].set 0 v1)) hnf1
 have uu : FU (h0 ++ [.row 79 10 [zeroPage] true 0]) M1 := ⟨a2, fun j _ hj hf => a4 j hj hf⟩
 have u1 := ((FU.ext h0 [.row 79 10 [zeroPage] true 0]).trans uu).trans (FU.set M1 (.cells 101 ([x0, x1, x2, x3, x4, x5].set 0 v1)))
 generalize hM2 : hset M1 0 (.cells 101 ([x0, x1, x2, x3, x4, x5].set 0 v1)) = M2 at *
 have d0' : load? cx (h0 ++ [.row 79 10 [zeroPage] true 0]) 38 (.ptr 0 0) = some x0 := load_one a38 h00' rfl
 have d2 : load? cx M2 39 (.ptr 0 2) = some x2 := load_one a39 z1 rfl
 obtain ⟨v2, ext2, p2, k2⟩ := with_cs ho hI (x := ((pgs.length : Nat) : Int)) r2 h2 i2 l2
 have y2 := (hget_appL ext2 0 (hget_cells_lt z1)).trans z1
 have st2 := store_cell (c := cx) (off := 2) s39 y2 (k2.one_cell (withV_is h2)) (show 2 < 6 by decide)
 have hnf2 : flat (hget (M2 ++ ext2) 0) = false := by rw [y2]; rfl
 have hl2 := hget_cells_lt y2
 have q4' : x4 = .p (.int .i64 ver) := by cases q4; rfl
 have q5' : x5 = .p (.int .i64 tr) := by cases q5; rfl
 have hfin : L2 (Co1 (hset (M2 ++ ext2) 0 (.cells 101 ([v1, x1, x2, x3, x4, x5].set 2 v2)))) [v1, x1, v2, x3, x4, x5] [.own 79 10 (pgs ++ [zeroPage]), c1, withV c2 fs (pgs.length : Nat), c3, .pv (.int .i64 ver), .pv (.int .i64 tr)] :=
  .cons ((r0.ext _).hset hnf2) (.cons ((r1.ext _).hset hnf2) (.cons (k2.hset hnf2) (.cons ((r3.ext _).hset hnf2) (.cons (by rw [q4']; exact .p _) (.cons (by rw [q5']; exact .p _) .nil)))))
 simp only [sc49r0, sc49r1, sc49r2, sc49r3, sc49r4, sc49r5, sc49r6, sc49r7, sc49r8, sc49, ↓rwS, rwT, rwG, Nat.reduceEqDiff, Nat.reduceAdd, reduceCtorEq, Nat.reduceLT, fA, fa0, fa1, fa2, d0, d1, e0, e1, hpos, hp4, decide_true, decide_false, call53_t ho, b79, hb, appW_sl u38 u38, a6, st1, hM2, d2, callW_ret ext104 p2, st2]
 refine ⟨u1.trans ((FU.ext M2 ext2).trans (FU.set _ _)), ⟨[v1, x1, v2, x3, x4, x5], ?_, hfin⟩, .val (.one (.p _))⟩
 rw [hget_hset _ _ _ _ hl2, if_pos rfl]; rfl
theorem take49_c {h0 cs0 pgs c1 c2 c3 ver tr} (h00 : hget h0 0 = .cells 101 cs0) (H : L2 (Co1 h0) cs0 [.own 79 10 pgs, c1, c2, c3, .pv (.int .i64 ver), .pv (.int .i64 tr)])
  (h1 : IsS 1 c1 (ints [])) (lp : 4096 ≤ pgs.length) :
  Ct cx o (.fn 49 [.ptr 0 0]) h0 (fun e h1 => FU h0 h1 ∧ (∃ cs1, hget h1 0 = .cells 101 cs1 ∧ L2 (Co1 h1) cs1 [.own 79 10 pgs, c1, c2, c3, .pv (.int .i64 ver), .pv (.int .i64 tr)]) ∧ CoE h1 e (.pan (failV 7))) := by
 refine ct49 (ho _ _ _ (by decide) (by decide)) rfl ?_
 have H' := H
 obtain ⟨x0, x1, x2, x3, x4, x5, rfl, q0, q1, q2, q3, q4, q5⟩ := l2_6 H
 have d0 : load? cx h0 38 (.ptr 0 0) = some x0 := load_one a38 h00 rfl
 have d1 : load? cx h0 39 (.ptr 0 1) = some x1 := load_one a39 h00 rfl
 have e0 := (q0.sl' (.own _ _)).len u38
 have e1 := (q1.sl' h1).len u39
 have hpos : ¬((0 : Int) < (((ints []).length : Nat) : Int)) := by decide
 have hp4 : ¬((pgs.length : Nat) : Int) < 4096 := by omega
 simp only [sc49r0, sc49r1, sc49r2, sc49r3, sc49r4, sc49r5, sc49r6, sc49r7, sc49r8, sc49, ↓rwS, rwT, rwG, Nat.reduceEqDiff, Nat.reduceAdd, reduceCtorEq, Nat.reduceLT, fA, fa0, fa1, d0, d1, e0, e1, hpos, hp4, decide_false, call53_f ho]
 refine ⟨FU.refl _, ⟨_, h00, H'⟩, .pan _⟩
end
end Go.Proofs

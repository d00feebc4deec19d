/- What is proved: contracts of the specification's lists; Sound. Conditions: as before. -/
import Derived.Test.YtjajjhfbdfdfnaaGreatSC04
set_option linter.all false
set_option maxRecDepth 100000
namespace Go.Proofs
open Go Go.Ai
theorem one64 {i : Nat} (h : i < 4611686018427387904) : IntKind.wrap .i64 ((i : Int) + 1) = ((i + 1 : Nat) : Int) := by
 rw [wrap64_id (by omega) (by omega)]; omega
theorem pred64 {i : Nat} (h : i < 4611686018427387904) (h0 : 0 < i) : IntKind.wrap .i64 ((i : Int) - 1) = ((i - 1 : Nat) : Int) := by
 rw [wrap64_id (by omega) (by omega)]; omega
def IncP (l : List Int) (n : Int) : Prop := ∀ i, i < l.length → 2 ≤ l.getD i 0 ∧ l.getD i 0 < n ∧ (0 < i → l.getD (i - 1) 0 < l.getD i 0)
noncomputable def incB (l : List Int) (n : Int) : Bool := @decide (IncP l n) (Classical.propDecidable _)
theorem incB_true {l n} (h : IncP l n) : incB l n = true := @decide_eq_true _ (Classical.propDecidable _) h
theorem incB_false {l n} (h : ¬IncP l n) : incB l n = false := @decide_eq_false _ (Classical.propDecidable _) h
theorem IncP.inc {l n} (h : IncP l n) : Inc l := by
 intro i j hij hj
 induction j with
 | zero => omega
 | succ j ih =>
  have := (h (j + 1) hj).2.2 (by omega)
  rw [Nat.add_sub_cancel] at this
  by_cases q : i = j
  ·subst q; exact this
  ·have := ih (by omega) (by omega); omega
section
variable {o : Orc} (ho : FreeT o)
include ho
theorem has57 {h v l} {x : Int} (H : Sl h 1 v (ints l)) (hl : l.length < 1000000000) :
  Ct cx o (.fn 57 [v, .p (.int .i64 x)]) h (fun e h' => h' = h ∧ e = .ret (.p (.bool (decide (x ∈ l))))) := by
 refine ct57 (ho _ _ _ (by decide) (by decide)) rfl ?_
 simp only [sc57r0, sc57r1, sc57r2, sc57r3, sc57r4, sc57r5, sc57r7, sc57, rwU, rwV, ↓rwA, rwB, rwG, Nat.reduceEqDiff, Nat.reduceAdd, reduceCtorEq, Nat.reduceLT]
 refine xC_loop (fun n t h' d r => ∃ i : Nat, n = l.length - i ∧ i ≤ l.length ∧ (∀ k, k < i → l.getD k 0 ≠ x) ∧ d = [] ∧ r = none ∧ h' = h ∧ t.get 0 = v ∧ t.get 1 = .p (.int .i64 x) ∧ t.get 4 = .p (.bool false) ∧ t.get 5 = .p (.int .i64 (i : Int))) l.length ?_ ?_
 ·refine ⟨0, rfl, by omega, fun k hk => by omega, rfl, rfl, rfl, ?_⟩
  simp only [↓rwA, rwB, rwG, Nat.reduceEqDiff, Nat.reduceAdd, reduceCtorEq, Nat.reduceLT, true_and]
  first | rfl | exact trivial
 ·rintro n t h' d r ⟨i, rfl, hi, hne, rfl, rfl, rfl, t0, t1, t4, t5⟩
  by_cases hlt : (i : Int) < ((l.length : Nat) : Int)
  ·obtain ⟨ia, ld⟩ := int_at (k := i) H u39 (by omega)
   by_cases hx : l.getD i 0 = x
   ·simp only [sc57r0, sc57r1, sc57r2, sc57r3, sc57r4, sc57r5, sc57l6, sc57r7, sc57, rwU, rwV, ↓rwA, rwB, rwG, Nat.reduceEqDiff, Nat.reduceAdd, reduceCtorEq, Nat.reduceLT, t0, t1, t4, t5, H.len u39, ints_length, hlt, decide_true, ia, ld, hx]
    have : decide (x ∈ l) = true := decide_eq_true (by rw [← hx, List.getD, List.getElem?_eq_getElem (by omega)]; exact List.getElem_mem _)
    rw [this]
    all_goals (first | exact ⟨rfl, rfl⟩ | exact ⟨trivial, rfl⟩ | trivial)
   ·simp only [sc57r0, sc57r1, sc57r2, sc57r3, sc57r4, sc57r5, sc57l6, sc57r7, sc57, rwU, rwV, ↓rwA, rwB, rwG, Nat.reduceEqDiff, Nat.reduceAdd, reduceCtorEq, Nat.reduceLT, t0, t1, t4, t5, H.len u39, ints_length, hlt, decide_true, decide_false, ia, ld, hx, one64 (show i < 4611686018427387904 by omega), true_and]
    refine ⟨_, ?_, i + 1, rfl, by omega, fun k hk => ?_, ?_⟩
    ·omega
    ·by_cases q : k = i
     ·rw [q]; exact hx
     ·exact hne k (by omega)
    ·first | rfl | exact trivial
  ·have : decide (x ∈ l) = false := decide_eq_false (by
    intro hx
    obtain ⟨k, hk⟩ := List.getElem?_of_mem hx
    have hkl := (List.getElem?_eq_some_iff.1 hk).1
    refine hne k (by omega) ?_
    rw [List.getD, hk]; rfl)
   simp only [sc57r0, sc57r1, sc57r2, sc57r3, sc57r4, sc57r5, sc57l6, sc57r7, sc57, rwU, rwV, ↓rwA, rwB, rwG, Nat.reduceEqDiff, Nat.reduceAdd, reduceCtorEq, Nat.reduceLT, t0, t1, t4, t5, H.len u39, ints_length, hlt, decide_false, this]
   all_goals (first | exact ⟨rfl, rfl⟩ | exact ⟨trivial, rfl⟩ | trivial)
theorem inc110 {h v l} {n : Int} (H : Sl h 1 v (ints l)) (hl : l.length < 1000000000) :
  Ct cx o (.fn 110 [v, .p (.int .i64 n)]) h (fun e h' => h' = h ∧ e = .ret (.p (.bool (incB l n)))) := by
 refine ct110 (ho _ _ _ (by decide) (by decide)) rfl ?_
 simp only [sc110r0, sc110r1, sc110r2, sc110r3, sc110d3_x, sc110r4, sc110r5, sc110r7, sc110, rwU, rwV, ↓rwA, rwB, rwG, Nat.reduceEqDiff, Nat.reduceAdd, reduceCtorEq, Nat.reduceLT]
 refine xC_loop (fun m t h' d r => ∃ i : Nat, m = l.length - i ∧ i ≤ l.length ∧ (∀ k, k < i → 2 ≤ l.getD k 0 ∧ l.getD k 0 < n ∧ (0 < k → l.getD (k - 1) 0 < l.getD k 0)) ∧ d = [] ∧ r = none ∧ h' = h ∧ t.get 0 = v ∧ t.get 1 = .p (.int .i64 n) ∧ t.get 4 = .p (.bool false) ∧ t.get 5 = .p (.int .i64 (i : Int))) l.length ?_ ?_
 ·refine ⟨0, rfl, by omega, fun k hk => by omega, rfl, rfl, rfl, ?_⟩
  simp only [↓rwA, rwB, rwG, Nat.reduceEqDiff, Nat.reduceAdd, reduceCtorEq, Nat.reduceLT, true_and]
  first | rfl | exact trivial
 ·rintro m t h' d r ⟨i, rfl, hi, hok, rfl, rfl, rfl, t0, t1, t4, t5⟩
  by_cases hlt : (i : Int) < ((l.length : Nat) : Int)
  ·obtain ⟨ia, ld⟩ := int_at (k := i) H u39 (by omega)
   have w1 := one64 (show i < 4611686018427387904 by omega)
   have bad : (¬(2 ≤ l.getD i 0 ∧ l.getD i 0 < n ∧ (0 < i → l.getD (i - 1) 0 < l.getD i 0))) → incB l n = false := fun q => incB_false fun hp => q (hp i (by omega))
   by_cases h2 : l.getD i 0 < 2
   ·simp only [sc110r0, sc110r1, sc110r2, sc110r3, sc110d3_x, sc110r4, sc110r5, sc110l6, sc110r7, sc110, rwU, rwV, ↓rwA, rwB, rwG, Nat.reduceEqDiff, Nat.reduceAdd, reduceCtorEq, Nat.reduceLT, ↓rwC, rwD, rwI, Nat.reduceSub, Nat.reduceLeDiff, t0, t1, t4, t5, H.len u39, ints_length, hlt, decide_true, ia, ld, h2, bad (by omega)]
    all_goals (first | exact ⟨rfl, rfl⟩ | exact ⟨trivial, rfl⟩ | trivial)
   ·by_cases h3 : n ≤ l.getD i 0
    ·simp only [sc110r0, sc110r1, sc110r2, sc110r3, sc110d3_x, sc110r4, sc110r5, sc110l6, sc110r7, sc110, rwU, rwV, ↓rwA, rwB, rwG, Nat.reduceEqDiff, Nat.reduceAdd, reduceCtorEq, Nat.reduceLT, ↓rwC, rwD, rwI, Nat.reduceSub, Nat.reduceLeDiff, t0, t1, t4, t5, H.len u39, ints_length, hlt, decide_true, decide_false, ia, ld, h2, h3, bad (by omega)]
     all_goals (first | exact ⟨rfl, rfl⟩ | exact ⟨trivial, rfl⟩ | trivial)
    ·by_cases h4 : (0 : Int) < (i : Int)
     ·obtain ⟨ib, lb⟩ := int_at (k := i - 1) H u39 (by omega)
      have w2 := pred64 (show i < 4611686018427387904 by omega) (by omega)
      by_cases h5 : l.getD i 0 ≤ l.getD (i - 1) 0
      ·simp only [sc110r0, sc110r1, sc110r2, sc110r3, sc110d3_x, sc110r4, sc110r5, sc110l6, sc110r7, sc110, rwU, rwV, ↓rwA, rwB, rwG, Nat.reduceEqDiff, Nat.reduceAdd, reduceCtorEq, Nat.reduceLT, ↓rwC, rwD, rwI, Nat.reduceSub, Nat.reduceLeDiff, t0, t1, t4, t5, H.len u39, ints_length, hlt, decide_true, decide_false, ia, ld, h2, h3, h4, w2, ib, lb, h5, bad (by omega)]
       all_goals (first | exact ⟨rfl, rfl⟩ | exact ⟨trivial, rfl⟩ | trivial)
      ·simp only [sc110r0, sc110r1, sc110r2, sc110r3, sc110d3_x, sc110r4, sc110r5, sc110l6, sc110r7, sc110, rwU, rwV, ↓rwA, rwB, rwG, Nat.reduceEqDiff, Nat.reduceAdd, reduceCtorEq, Nat.reduceLT, ↓rwC, rwD, rwI, Nat.reduceSub, Nat.reduceLeDiff, t0, t1, t4, t5, H.len u39, ints_length, hlt, decide_true, decide_false, ia, ld, h2, h3, h4, w2, ib, lb, h5, w1, true_and]
       refine ⟨_, ?_, i + 1, rfl, by omega, fun k hk => ?_, ?_⟩
       ·omega
       ·by_cases q : k = i
        ·rw [q]; exact ⟨by omega, by omega, fun _ => by omega⟩
        ·exact hok k (by omega)
       ·first | rfl | exact trivial
     ·simp only [sc110r0, sc110r1, sc110r2, sc110r3, sc110d3_x, sc110r4, sc110r5, sc110l6, sc110r7, sc110, rwU, rwV, ↓rwA, rwB, rwG, Nat.reduceEqDiff, Nat.reduceAdd, reduceCtorEq, Nat.reduceLT, ↓rwC, rwD, rwI, Nat.reduceSub, Nat.reduceLeDiff, t0, t1, t4, t5, H.len u39, ints_length, hlt, decide_true, decide_false, ia, ld, h2, h3, h4, w1, true_and]
      refine ⟨_, ?_, i + 1, rfl, by omega, fun k hk => ?_, ?_⟩
      ·omega
      ·by_cases q : k = i
       ·rw [q]; exact ⟨by omega, by omega, fun q => by omega⟩
       ·exact hok k (by omega)
      ·first | rfl | exact trivial
  ·have : incB l n = true := incB_true fun k hk => hok k (by omega)
   simp only [sc110r0, sc110r1, sc110r2, sc110r3, sc110d3_x, sc110r4, sc110r5, sc110l6, sc110r7, sc110, rwU, rwV, ↓rwA, rwB, rwG, Nat.reduceEqDiff, Nat.reduceAdd, reduceCtorEq, Nat.reduceLT, t0, t1, t4, t5, H.len u39, ints_length, hlt, decide_false, this]
   all_goals (first | exact ⟨rfl, rfl⟩ | exact ⟨trivial, rfl⟩ | trivial)
end
def accV (l : List Int) : CV := cond l.isEmpty (.pv .nils) (.own 3 1 (ints l))
theorem accV_is (l : List Int) : IsS 1 (accV l) (ints l) := by
 cases l with
 | nil => exact .nil
 | cons a l => exact .own _ _
structure AccI (h h' : List Ob) (b : AV) (l : List Int) : Prop where
 len : h.length ≤ h'.length
 keep : ∀ j, j < h.length → hget h' j = hget h j
 own : Own h' 3 1 b (ints l)
 nil : l = [] → b = .p .nils
 new : ∀ j ∈ ids1 b, h.length ≤ j
theorem AccI.start (h : List Ob) : AccI h h (.p .nils) [] := ⟨Nat.le_refl _, fun _ _ => rfl, .nil, fun _ => rfl, fun j hj => (by cases hj)⟩
theorem AccI.ext {h h' b l} (A : AccI h h' b l) : ∃ ext, h' = h ++ ext := ext_of A.len A.keep
theorem AccI.co {h h' b l} (A : AccI h h' b l) : Co1 h' b (accV l) := by
 cases l with
 | nil => rw [A.nil rfl]; exact .p _
 | cons a m =>
  refine A.own.co1 ?_
  have := A.own
  generalize hx : ints (a :: m) = xs at this
  cases this with
  | nil => cases hx
  | row => intro q; cases q
theorem AccI.sl {h h' b l v m} (A : AccI h h' b l) (H : Sl h 1 v (ints m)) : Sl h' 1 v (ints m) := by
 obtain ⟨c, h1, h2⟩ := H.co
 exact H.keep fun j hj => A.keep j (ids1_lt h1 j hj)
theorem AccI.app {h h' b l} {o : Orc} {x : Int} (A : AccI h h' b l) (hl : l.length < 1000000) :
  ∃ b1 h1, AccI h h1 b1 (l ++ [x]) ∧ buildSlice? cx h' 39 1 [(0, .p (.int .i64 x))] = .wh (.sl h'.length 0 1 0 1) (h' ++ [.row 3 1 [.int .i64 x] true 0]) ∧
   ∀ (op : Op) (dst : Option Tmp) (t : Tm) (d : List AD) (r : Option RM) (k : KP) (Q : Post), opW cx o none op dst t (h' ++ [.row 3 1 [.int .i64 x] true 0]) d r (append? cx (h' ++ [.row 3 1 [.int .i64 x] true 0]) 3 b (.sl h'.length 0 1 0 1)) k Q = k (put dst b1 t) h1 d r := by
 have hb := build1 (c := cx) (h := h') (v := .int .i64 x) u39 s3 a3 z3 rfl rfl rfl
 obtain ⟨b1, h1, a1, a2, a3', a4, a5, a6⟩ := app_own (c := cx) (o := o) (rd := none) (A.own.ext [.row 3 1 [.int .i64 x] true 0]) s3 (by decide) (x := .sl h'.length 0 1 0 1) (elems_sl1 (xs := [.int .i64 x]) (hget_new _ _)) rfl (by simp) (room_le room3 (by rw [ints_length]; simp; omega))
 refine ⟨b1, h1, ⟨?_, fun j hj => ?_, ?_, fun q => by simp at q, fun j hj => ?_⟩, hb, a6⟩
 ·rw [List.length_append] at a2; have := A.len; omega
 ·rw [a3' j (by rw [List.length_append]; have := A.len; omega) (fun q => by have := A.new j q; omega), hget_app _ _ _ (by have := A.len; omega), A.keep j hj]
 ·rw [ints_app]; exact a1
 ·rcases a5 j hj with q | q
  ·exact A.new j q
  ·rw [List.length_append] at q; have := A.len; omega
theorem filt1 {y x : Int} (h : y ≠ x) : [y].filter (fun a => decide (a ≠ x)) = [y] := by simp [h]
theorem take_snoc {l : List Int} {i : Nat} (hi : i < l.length) : l.take (i + 1) = l.take i ++ [l.getD i 0] := by
 rw [List.take_add_one, List.getElem?_eq_getElem hi]
 simp [List.getD, hi]
section
variable {o : Orc} (ho : FreeT o)
include ho
theorem without105 {h v l} {x : Int} (H : Sl h 1 v (ints l)) (hl : l.length < 1000000) :
  Ct cx o (.fn 105 [v, .p (.int .i64 x)]) h (fun e h1 => (∃ ext, h1 = h ++ ext) ∧ CoE h1 e (.val (accV (l.filter fun a => decide (a ≠ x))))) := by
 refine ct105 (ho _ _ _ (by decide) (by decide)) rfl ?_
 simp only [sc105r0, sc105r1, sc105r2, sc105r3, sc105r4, sc105r5, sc105r6, sc105r8, sc105, rwU, rwV, ↓rwA, rwB, rwG, Nat.reduceEqDiff, Nat.reduceAdd, reduceCtorEq, Nat.reduceLT]
 refine xC_loop (fun n t h' d r => ∃ (i : Nat) (b : AV), n = l.length - i ∧ i ≤ l.length ∧ AccI h h' b ((l.take i).filter fun a => decide (a ≠ x)) ∧ d = [] ∧ r = none ∧ t.get 0 = v ∧ t.get 1 = .p (.int .i64 x) ∧ t.get 5 = b ∧ t.get 6 = .p (.int .i64 (i : Int))) l.length ?_ ?_
 ·refine ⟨0, .p .nils, rfl, by omega, AccI.start h, rfl, rfl, ?_⟩
  simp only [↓rwA, rwB, rwG, Nat.reduceEqDiff, Nat.reduceAdd, reduceCtorEq, Nat.reduceLT, true_and]
  all_goals (first | rfl | exact ⟨rfl, rfl⟩ | exact trivial)
 ·rintro n t h' d r ⟨i, b, rfl, hi, A, rfl, rfl, t0, t1, t5, t6⟩
  have H' := A.sl H
  by_cases hlt : (i : Int) < ((l.length : Nat) : Int)
  ·obtain ⟨ia, ld⟩ := int_at (k := i) H' u39 (by omega)
   have w1 := one64 (show i < 4611686018427387904 by omega)
   by_cases hx : l.getD i 0 = x
   ·simp only [sc105r0, sc105r1, sc105r2, sc105r3, sc105r4, sc105r5, sc105r6, sc105l7, sc105r8, sc105, rwU, rwV, ↓rwA, rwB, rwG, Nat.reduceEqDiff, Nat.reduceAdd, reduceCtorEq, Nat.reduceLT, t0, t1, t5, t6, H'.len u39, ints_length, hlt, decide_true, ia, ld, hx, Bool.not_true, w1, true_and]
    refine ⟨_, ?_, i + 1, b, rfl, by omega, ?_, ?_⟩
    ·omega
    ·rw [take_snoc (by omega), List.filter_append, hx]
     have : [x].filter (fun a => decide (a ≠ x)) = [] := by simp
     rw [this, List.append_nil]; exact A
    ·all_goals (first | rfl | exact ⟨rfl, rfl⟩ | exact trivial)
   ·obtain ⟨b1, h1, A1, hb, ha⟩ := A.app (o := o) (x := l.getD i 0) (by
     have := List.length_filter_le (fun a => decide (a ≠ x)) (l.take i)
     rw [List.length_take] at this; omega)
    simp only [sc105r0, sc105r1, sc105r2, sc105r3, sc105r4, sc105r5, sc105r6, sc105l7, sc105r8, sc105, rwU, rwV, ↓rwA, rwB, rwG, Nat.reduceEqDiff, Nat.reduceAdd, reduceCtorEq, Nat.reduceLT, t0, t1, t5, t6, H'.len u39, ints_length, hlt, decide_true, decide_false, ia, ld, hx, Bool.not_false, hb, appW_sl u39 u39, ha, w1, true_and]
    refine ⟨_, ?_, i + 1, b1, rfl, by omega, ?_, ?_⟩
    ·omega
    ·rw [take_snoc (by omega), List.filter_append]
     have : [l.getD i 0].filter (fun a => decide (a ≠ x)) = [l.getD i 0] := filt1 hx
     rw [this]; exact A1
    ·all_goals (first | rfl | exact ⟨rfl, rfl⟩ | exact trivial)
  ·have hl' : l.take i = l := List.take_of_length_le (by omega)
   rw [hl'] at A
   simp only [sc105r0, sc105r1, sc105r2, sc105r3, sc105r4, sc105r5, sc105r6, sc105l7, sc105r8, sc105, rwU, rwV, ↓rwA, rwB, rwG, Nat.reduceEqDiff, Nat.reduceAdd, reduceCtorEq, Nat.reduceLT, t0, t1, t5, t6, H'.len u39, ints_length, hlt, decide_false]
   exact ⟨A.ext, .val (.one A.co)⟩
end
theorem lbn_spec {l : List Int} (hi : Inc l) (x : Int) : (∀ k, k < lbn l x → l.getD k 0 < x) ∧ (∀ k, lbn l x ≤ k → k < l.length → x ≤ l.getD k 0) := by
 -- the first place that is not less
 have ex : ∀ n, n ≤ l.length → ∃ i, i ≤ n ∧ (∀ k, k < i → l.getD k 0 < x) ∧ (∀ k, i ≤ k → k < n → x ≤ l.getD k 0) := by
  intro n
  induction n with
  | zero => intro _; exact ⟨0, Nat.le_refl _, fun k hk => by omega, fun k _ hk => by omega⟩
  | succ n ih =>
   intro hn
   obtain ⟨i, h1, h2, h3⟩ := ih (by omega)
   by_cases q : l.getD n 0 < x
   ·refine ⟨n + 1, Nat.le_refl _, fun k hk => ?_, fun k h1 h2 => by omega⟩
    by_cases q2 : k = n
    ·rw [q2]; exact q
    ·have := hi k n (by omega) (by omega); omega
   ·refine ⟨i, by omega, h2, fun k h4 h5 => ?_⟩
    by_cases q2 : k = n
    ·rw [q2]; omega
    ·exact h3 k h4 (by omega)
 obtain ⟨i, h1, h2, h3⟩ := ex l.length (Nat.le_refl _)
 rw [lbn_of h1 h2 h3]
 exact ⟨h2, h3⟩
def withL (l : List Int) (x : Int) : List Int := if x ∈ l then l else insL l (lbn l x) x
def mrg (l : List Int) (x : Int) (i : Nat) : List Int :=
 if lbn l x < i then l.take (lbn l x) ++ (if l.getD (lbn l x) 0 = x then [] else [x]) ++ (l.drop (lbn l x)).take (i - lbn l x) else l.take i
theorem mrg_len (l x i) : (mrg l x i).length ≤ i + 1 := by
 unfold mrg
 split
 ·rw [List.length_append, List.length_append, List.length_take, List.length_take, List.length_drop]
  split <;> simp <;> omega
 ·rw [List.length_take]; omega
theorem mrg_lt {l : List Int} {x : Int} {i : Nat} (hi : i < l.length) (h : i < lbn l x) : mrg l x (i + 1) = mrg l x i ++ [l.getD i 0] := by
 unfold mrg
 rw [if_neg (by omega), if_neg (by omega), take_snoc hi]
theorem mrg_at {l : List Int} {x : Int} (hi : lbn l x < l.length) : mrg l x (lbn l x + 1) = mrg l x (lbn l x) ++ (if l.getD (lbn l x) 0 = x then [] else [x]) ++ [l.getD (lbn l x) 0] := by
 have hd : (l.drop (lbn l x)).take 1 = [l.getD (lbn l x) 0] := by
  rw [List.drop_eq_getElem_cons hi, List.getD, List.getElem?_eq_getElem hi]; rfl
 unfold mrg
 rw [if_pos (Nat.lt_succ_self (lbn l x)), if_neg (Nat.lt_irrefl (lbn l x)), show lbn l x + 1 - lbn l x = 1 by omega, hd]
theorem mrg_gt {l : List Int} {x : Int} {i : Nat} (hi : i < l.length) (h : lbn l x < i) : mrg l x (i + 1) = mrg l x i ++ [l.getD i 0] := by
 unfold mrg
 rw [if_pos (Nat.lt_succ_of_lt h), if_pos h]
 simp only [List.append_assoc]
 congr 2
 have : i + 1 - lbn l x = (i - lbn l x) + 1 := by omega
 rw [this, take_snoc (by rw [List.length_drop]; omega)]
 congr 2
 rw [List.getD, List.getD, List.getElem?_drop]
 congr 2; omega
theorem mrg_end {l : List Int} {x : Int} (hi : Inc l) : withL l x = if lbn l x < l.length then mrg l x l.length else mrg l x l.length ++ [x] := by
 have hle : lbn l x ≤ l.length := List.countP_le_length
 obtain ⟨h1, h2⟩ := lbn_spec hi x
 have hm := mem_lbn hle h1 h2 hi
 unfold withL mrg insL
 by_cases q : lbn l x < l.length
 ·rw [if_pos q, if_pos q]
  have ht : (l.drop (lbn l x)).take (l.length - lbn l x) = l.drop (lbn l x) := List.take_of_length_le (by rw [List.length_drop]; omega)
  rw [ht]
  by_cases q2 : l.getD (lbn l x) 0 = x
  ·have : x ∈ l := by
    rw [decide_eq_true q, decide_eq_true q2] at hm
    exact of_decide_eq_true hm
   rw [if_pos this, if_pos q2, List.append_nil, List.take_append_drop]
  ·have : ¬x ∈ l := by
    intro hx
    rw [decide_eq_true hx, decide_eq_false q2, Bool.and_false] at hm
    cases hm
   rw [if_neg this, if_neg q2]; simp
 ·rw [if_neg q, if_neg q]
  have : ¬x ∈ l := by
   intro hx
   rw [decide_eq_true hx, decide_eq_false q, Bool.false_and] at hm
   cases hm
  rw [if_neg this, List.take_of_length_le (Nat.le_refl _), List.take_of_length_le (by omega), List.drop_of_length_le (by omega)]
section
variable {o : Orc} (ho : FreeT o)
include ho
theorem with106 {h v l} {x : Int} (H : Sl h 1 v (ints l)) (hI : Inc l) (hl : l.length < 100000) :
  Ct cx o (.fn 106 [v, .p (.int .i64 x)]) h (fun e h1 => (∃ ext, h1 = h ++ ext) ∧ CoE h1 e (.val (accV (withL l x)))) := by
 have hle : lbn l x ≤ l.length := List.countP_le_length
 obtain ⟨s1, s2⟩ := lbn_spec hI x
 refine ct106 (ho _ _ _ (by decide) (by decide)) rfl ?_
 simp only [sc106r0, sc106r1, sc106r2, sc106r3, sc106r4, sc106r5, sc106r6, sc106r7, sc106r8, sc106r9, sc106r10, sc106r12, sc106r13, sc106r14, sc106, rwU, rwV, ↓rwA, rwB, rwG, Nat.reduceEqDiff, Nat.reduceAdd, reduceCtorEq, Nat.reduceLT]
 refine xC_loop (fun n t h' d r => ∃ (i : Nat) (b : AV), n = l.length - i ∧ i ≤ l.length ∧ AccI h h' b (mrg l x i) ∧ d = [] ∧ r = none ∧ t.get 0 = v ∧ t.get 1 = .p (.int .i64 x) ∧ t.get 5 = b ∧ t.get 6 = .p (.bool (decide (lbn l x < i))) ∧ t.get 7 = .p (.int .i64 (i : Int))) l.length ?_ ?_
 ·refine ⟨0, .p .nils, rfl, by omega, ?_, rfl, rfl, ?_⟩
  ·have : mrg l x 0 = [] := by unfold mrg; rw [if_neg (by omega)]; rfl
   rw [this]; exact AccI.start h
  ·rw [decide_eq_false (show ¬lbn l x < 0 by omega)]
   simp only [↓rwA, rwB, rwG, Nat.reduceEqDiff, Nat.reduceAdd, reduceCtorEq, Nat.reduceLT, true_and]
   all_goals (first | rfl | exact ⟨rfl, rfl⟩ | exact trivial)
 ·rintro n t h' d r ⟨i, b, rfl, hi, A, rfl, rfl, t0, t1, t5, t6, t7⟩
  have H' := A.sl H
  have hml := mrg_len l x i
  by_cases hlt : (i : Int) < ((l.length : Nat) : Int)
  ·obtain ⟨ia, ld⟩ := int_at (k := i) H' u39 (by omega)
   have w1 := one64 (show i < 4611686018427387904 by omega)
   by_cases q1 : lbn l x < i
   ·obtain ⟨b1, h1, A1, hb, ha⟩ := A.app (o := o) (x := l.getD i 0) (by omega)
    rw [decide_eq_true q1] at t6
    simp only [sc106r0, sc106r1, sc106r2, sc106r3, sc106r4, sc106r5, sc106r6, sc106r7, sc106r8, sc106r9, sc106r10, sc106l11, sc106r12, sc106r13, sc106r14, sc106, rwU, rwV, ↓rwA, rwB, rwG, Nat.reduceEqDiff, Nat.reduceAdd, reduceCtorEq, Nat.reduceLT, t0, t1, t5, t6, t7, H'.len u39, ints_length, hlt, decide_true, ia, ld, hb, appW_sl u39 u39, ha, w1, true_and]
    refine ⟨_, ?_, i + 1, b1, rfl, by omega, ?_, ?_⟩
    ·omega
    ·rw [mrg_gt (by omega) q1]; exact A1
    ·rw [decide_eq_true (show lbn l x < i + 1 by omega)]
     all_goals (first | rfl | exact ⟨rfl, rfl⟩ | exact ⟨rfl, rfl, rfl⟩ | exact trivial)
   ·rw [decide_eq_false q1] at t6
    by_cases q2 : i < lbn l x
    ·have hx : ¬x ≤ l.getD i 0 := by have := s1 i q2; omega
     obtain ⟨b1, h1, A1, hb, ha⟩ := A.app (o := o) (x := l.getD i 0) (by omega)
     simp only [sc106r0, sc106r1, sc106r2, sc106r3, sc106r4, sc106r5, sc106r6, sc106r7, sc106r8, sc106r9, sc106r10, sc106l11, sc106r12, sc106r13, sc106r14, sc106, rwU, rwV, ↓rwA, rwB, rwG, Nat.reduceEqDiff, Nat.reduceAdd, reduceCtorEq, Nat.reduceLT, t0, t1, t5, t6, t7, H'.len u39, ints_length, hlt, decide_true, decide_false, ia, ld, hx, hb, appW_sl u39 u39, ha, w1, true_and]
     refine ⟨_, ?_, i + 1, b1, rfl, by omega, ?_, ?_⟩
     ·omega
     ·rw [mrg_lt (by omega) q2]; exact A1
     ·rw [decide_eq_false (show ¬lbn l x < i + 1 by omega)]
      all_goals (first | rfl | exact ⟨rfl, rfl⟩ | exact ⟨rfl, rfl, rfl⟩ | exact trivial)
    ·have hq : i = lbn l x := by omega
     have hx : x ≤ l.getD i 0 := s2 i (by omega) (by omega)
     by_cases q3 : l.getD i 0 = x
     ·obtain ⟨b1, h1, A1, hb, ha⟩ := A.app (o := o) (x := l.getD i 0) (by omega)
      have hxx : x ≤ x := by omega
      rw [q3] at ld hb ha A1
      simp only [sc106r0, sc106r1, sc106r2, sc106r3, sc106r4, sc106r5, sc106r6, sc106r7, sc106r8, sc106r9, sc106r10, sc106l11, sc106r12, sc106r13, sc106r14, sc106, rwU, rwV, ↓rwA, rwB, rwG, Nat.reduceEqDiff, Nat.reduceAdd, reduceCtorEq, Nat.reduceLT, t0, t1, t5, t6, t7, H'.len u39, ints_length, hlt, decide_true, decide_false, ia, ld, hxx, Bool.not_true, hb, appW_sl u39 u39, ha, w1, true_and]
      refine ⟨_, ?_, i + 1, b1, rfl, by omega, ?_, ?_⟩
      ·omega
      ·have := mrg_at (l := l) (x := x) (by omega)
       rw [← hq, if_pos q3, List.append_nil, q3] at this
       rw [this]; exact A1
      ·rw [decide_eq_true (show lbn l x < i + 1 by omega)]
       all_goals (first | rfl | exact ⟨rfl, rfl⟩ | exact ⟨rfl, rfl, rfl⟩ | exact trivial)
     ·obtain ⟨b1, h1, A1, hb, ha⟩ := A.app (o := o) (x := x) (by omega)
      obtain ⟨b2, h2, A2, hb2, ha2⟩ := A1.app (o := o) (x := l.getD i 0) (by rw [List.length_append]; simp; omega)
      have H1 := A1.sl H
      obtain ⟨ia1, ld1⟩ := int_at (k := i) H1 u39 (by omega)
      simp only [sc106r0, sc106r1, sc106r2, sc106r3, sc106r4, sc106r5, sc106r6, sc106r7, sc106r8, sc106r9, sc106r10, sc106l11, sc106r12, sc106r13, sc106r14, sc106, rwU, rwV, ↓rwA, rwB, rwG, Nat.reduceEqDiff, Nat.reduceAdd, reduceCtorEq, Nat.reduceLT, t0, t1, t5, t6, t7, H'.len u39, ints_length, hlt, decide_true, decide_false, ia, ld, hx, q3, Bool.not_false, hb, appW_sl u39 u39, ha, ld1, hb2, ha2, w1, true_and]
      refine ⟨_, ?_, i + 1, b2, rfl, by omega, ?_, ?_⟩
      ·omega
      ·have := mrg_at (l := l) (x := x) (by omega)
       rw [← hq, if_neg q3] at this
       rw [this]; exact A2
      ·rw [decide_eq_true (show lbn l x < i + 1 by omega)]
       all_goals (first | rfl | exact ⟨rfl, rfl⟩ | exact ⟨rfl, rfl, rfl⟩ | exact trivial)
  ·have hil : i = l.length := by omega
   subst hil
   have he := mrg_end (x := x) hI
   by_cases q1 : lbn l x < l.length
   ·rw [decide_eq_true q1] at t6
    rw [if_pos q1] at he
    simp only [sc106r0, sc106r1, sc106r2, sc106r3, sc106r4, sc106r5, sc106r6, sc106r7, sc106r8, sc106r9, sc106r10, sc106l11, sc106r12, sc106r13, sc106r14, sc106, rwU, rwV, ↓rwA, rwB, rwG, Nat.reduceEqDiff, Nat.reduceAdd, reduceCtorEq, Nat.reduceLT, t0, t1, t5, t6, t7, H'.len u39, ints_length, hlt, decide_false]
    rw [he]
    exact ⟨A.ext, .val (.one A.co)⟩
   ·rw [decide_eq_false q1] at t6
    rw [if_neg q1] at he
    obtain ⟨b1, h1, A1, hb, ha⟩ := A.app (o := o) (x := x) (by omega)
    simp only [sc106r0, sc106r1, sc106r2, sc106r3, sc106r4, sc106r5, sc106r6, sc106r7, sc106r8, sc106r9, sc106r10, sc106l11, sc106r12, sc106r13, sc106r14, sc106, rwU, rwV, ↓rwA, rwB, rwG, Nat.reduceEqDiff, Nat.reduceAdd, reduceCtorEq, Nat.reduceLT, t0, t1, t5, t6, t7, H'.len u39, ints_length, hlt, decide_false, hb, appW_sl u39 u39, ha]
    rw [he]
    exact ⟨A1.ext, .val (.one A1.co)⟩
end
inductive SlP (sz : Nat) : PV → List PV → Prop
 | nil : SlP sz .nils []
 | vec (xs) : SlP sz (.vec sz xs) xs
theorem SlP.sl {sz p xs} (H : SlP sz p xs) (h : List Ob) : Sl h sz (.p p) xs := by
 cases H with
 | nil => exact .nil
 | vec => exact .vec _
theorem SlP.is {sz p xs} (H : SlP sz p xs) : IsS sz (.pv p) xs := by
 cases H with
 | nil => exact .nil
 | vec => exact .vec _
theorem SlP.eok {sz p xs} (H : SlP sz p xs) : EOk cx 39 p := by
 cases H with
 | nil =>
  refine ⟨?_, ?_⟩
  ·unfold loadC; rw [a39]
  ·unfold part?; rw [a39]; rfl
 | vec =>
  refine ⟨?_, ?_⟩
  ·unfold loadC; rw [a39]
  ·unfold part?; rw [a39]; rfl
theorem store_el {c : Ctx} {h : List Ob} {ty : TypeId} {i g k : Nat} {e : TypeId} {xs : List PV} {ex : Bool} {v x : PV} (hs : sizeOf? c ty = some 1) (hr : hget h i = .row e 1 xs ex g) (hk : xs[k]? = some x) (hx : ∀ l, x ≠ .agg l) (hx1 : x.cells = [x]) (hv : v.cells = [v]) :
  store? c h ty (.el i g 1 k 0) (.p v) = .wh undefA (hset h i (.row e 1 (xs.set k v) ex g)) := by
 unfold store?
 simp only [hs]
 unfold storeEl
 simp only [pure1, hv, List.length_singleton, Nat.beq_refl, cond, hr, Bool.and_self, pget_eq, hk, hx1]
 unfold overK
 simp only [List.length_singleton, Nat.zero_add]
 rw [Nat.ble_eq_true_of_le (Nat.le_refl 1)]
 simp only [cond, lnf_eq, List.take_zero, List.nil_append, List.drop_one, List.tail_cons, List.append_nil]
 have : reElem x [v] = some v := by
  unfold reElem
  cases x <;> first | rfl | exact absurd rfl (hx _)
 rw [this]
 simp only [lnf_eq, hsetK_eq]
def marks (vis : List Int) (n : Nat) : List PV := (List.range n).map fun (k : Nat) => .bool (decide ((k : Int) ∈ vis))
theorem marks_len (vis n) : (marks vis n).length = n := by unfold marks; simp
theorem marks_nil (n) : List.replicate n (PV.bool false) = marks [] n := by
 unfold marks
 apply List.ext_getElem?
 intro i
 rw [List.getElem?_replicate, List.getElem?_map]
 by_cases h : i < n
 ·rw [if_pos h, List.getElem?_range h]; simp
 ·rw [if_neg h, List.getElem?_eq_none (by simp; omega)]; rfl
theorem marks_get {vis n k} (h : k < n) : (marks vis n)[k]? = some (.bool (decide ((k : Int) ∈ vis))) := by
 unfold marks
 rw [List.getElem?_map, List.getElem?_range h]; rfl
theorem marks_set {vis n} {x : Int} (h0 : 0 ≤ x) : (marks vis n).set x.toNat (.bool true) = marks (vis ++ [x]) n := by
 apply List.ext_getElem?
 intro i
 rw [List.getElem?_set, marks_len]
 by_cases hi : i < n
 ·rw [marks_get hi, marks_get hi]
  by_cases q : x.toNat = i
  ·rw [if_pos q, if_pos (by omega)]
   have : (i : Int) = x := by omega
   rw [this]; simp
  ·rw [if_neg q]
   have : (i : Int) ≠ x := by omega
   congr 2
   simp [this]
 ·rw [List.getElem?_eq_none (l := marks vis n) (by rw [marks_len]; omega), List.getElem?_eq_none (l := marks (vis ++ [x]) n) (by rw [marks_len]; omega)]
  by_cases q : x.toNat = i
  ·rw [if_pos q, if_neg (by omega)]
  ·rw [if_neg q]
theorem make_bools {h : List Ob} {n : Nat} (hn : n < 1000000) : makeSlice? cx h 109 (.p (.int .i64 (n : Int))) (.p (.int .i64 (n : Int))) = .wn (.sl h.length 0 1 0 n) (.row 4 1 (marks [] n) true 0) := by
 obtain ⟨i, hi, hs, hb⟩ : ∃ i, cx.info 4 = some i ∧ i.size = 1 ∧ i.bytes = 1 := by
  cases hq : cx.info 4 with
  | none =>
   have : (cx.info 4).isSome = true := by kernel_rfl
   rw [hq] at this; cases this
  | some i =>
   have h1 : (cx.info 4).map (fun i => (i.size, i.bytes)) = some (1, 1) := by kernel_rfl
   rw [hq] at h1
   have : (i.size, i.bytes) = (1, 1) := Option.some.inj h1
   exact ⟨i, rfl, congrArg Prod.fst this, congrArg Prod.snd this⟩
 unfold makeSlice?
 simp only [u109]
 unfold onII onI
 simp only [hi, z4, a4]
 have : (!ltI (n : Int) 0 && !ltI (n : Int) (n : Int) && !ltI 140737488355328 (Int.mul i.bytes (n : Int)) && Nat.ble 1 i.bytes && Nat.ble 1 i.size && fitsA false i.size (.bool false)) = true := by
  rw [hs, hb]
  simp only [ltI_eq]
  rw [decide_eq_false (show ¬((n : Int) < 0) by omega), decide_eq_false (show ¬((n : Int) < (n : Int)) by omega), decide_eq_false (show ¬(140737488355328 < Int.mul ((1 : Nat) : Int) (n : Int)) by show ¬(140737488355328 < ((1 : Nat) : Int) * (n : Int)); omega)]
  rfl
 rw [this]
 simp only [cond, hs]
 unfold Ai.newRow
 simp only [forceN_eq, lnf_eq, Int.toNat_natCast, marks_nil]
structure Spc where
 p0 : PV
 p1 : PV
 p2 : PV
 p3 : PV
 pgs : List PV
 fr : List Int
 fs : List Int
 gn : List Int
 ver : Int
 tr : Int
structure SpcOk (S : Spc) : Prop where
 h0 : SlP 10 S.p0 S.pgs
 h1 : SlP 1 S.p1 (ints S.fr)
 h2 : SlP 1 S.p2 (ints S.fs)
 h3 : SlP 1 S.p3 (ints S.gn)
 l0 : S.pgs.length < 100000
 l1 : S.fr.length < 100000
 l2 : S.fs.length < 100000
 l3 : S.gn.length < 100000
def Spc.v (S : Spc) : PV := .agg [S.p0, S.p1, S.p2, S.p3, .int .i64 S.ver, .int .i64 S.tr]
def Spc.cells (S : Spc) : List AV := [.p S.p0, .p S.p1, .p S.p2, .p S.p3, .p (.int .i64 S.ver), .p (.int .i64 S.tr)]
theorem hbox {S : Spc} (hh : List Ob) : boxW hh 41 (.p S.v) = .wn (.ptr hh.length 0) (.cells 41 S.cells) := rfl
theorem ldS {S : Spc} (l : List Ob) : load? cx (.cells 41 S.cells :: l) 41 (.ptr 0 0) = some (.p S.v) := (load_whole a41 s41 rfl rfl).trans rfl
def Spc.L (S : Spc) (i : Nat) : List Int := [S.fr, S.fs, S.gn].getD i []
def Spc.P (S : Spc) (i : Nat) : PV := [S.p1, S.p2, S.p3].getD i .nilp
def Spc.pre (S : Spc) (i : Nat) : List Int := ([S.fr, S.fs, S.gn].take i).flatten
theorem Spc.pre_succ (S : Spc) {i : Nat} (hi : i < 3) : S.pre (i + 1) = S.pre i ++ S.L i := by
 unfold Spc.pre Spc.L
 match i, hi with
 | 0, _ => simp
 | 1, _ => simp
 | 2, _ => simp
theorem SpcOk.lP {S : Spc} (O : SpcOk S) {i : Nat} (hi : i < 3) : SlP 1 (S.P i) (ints (S.L i)) ∧ (S.L i).length < 100000 := by
 match i, hi with
 | 0, _ => exact ⟨O.h1, O.l1⟩
 | 1, _ => exact ⟨O.h2, O.l2⟩
 | 2, _ => exact ⟨O.h3, O.l3⟩
def Spc.okN (S : Spc) : Prop := 2 ≤ S.pgs.length ∧ S.pgs.length ≤ 4096 ∧ 0 ≤ S.ver ∧ S.ver ≤ 1099511627776 ∧ 0 ≤ S.tr ∧ S.tr ≤ 255
def Spc.Sound (S : Spc) : Prop := S.okN ∧ (∀ i, i < 3 → IncP (S.L i) (S.pgs.length : Nat)) ∧ (S.pre 3).Nodup
noncomputable def Spc.soundE (S : Spc) : Int := @ite _ S.Sound (Classical.propDecidable _) 0 2
theorem Spc.soundE_t {S : Spc} (h : S.Sound) : S.soundE = 0 := @if_pos _ (Classical.propDecidable _) h _ _ _
theorem Spc.soundE_f {S : Spc} (h : ¬S.Sound) : S.soundE = 2 := @if_neg _ (Classical.propDecidable _) h _ _ _
section
variable {o : Orc} (ho : FreeT o)
include ho
theorem sound18 {S : Spc} (O : SpcOk S) : Ct cx o (.fn 18 [.p S.v]) [] (fun e _ => e = .ret (.p (.int .i64 S.soundE))) := by
 refine ct18 (ho _ _ _ (by decide) (by decide)) rfl ?_
 have fa0 : fieldAddr? cx 41 (.ptr 0 0) 0 = some (.ptr 0 0) := fieldAddr_ptr (m := 0) f41_0 s38
 have fa1 : fieldAddr? cx 41 (.ptr 0 0) 1 = some (.ptr 0 1) := fieldAddr_ptr (m := 0) f41_1 s39
 have fa2 : fieldAddr? cx 41 (.ptr 0 0) 2 = some (.ptr 0 2) := fieldAddr_ptr (m := 0) f41_2 s39
 have fa3 : fieldAddr? cx 41 (.ptr 0 0) 3 = some (.ptr 0 3) := fieldAddr_ptr (m := 0) f41_3 s39
 have fa4 : fieldAddr? cx 41 (.ptr 0 0) 4 = some (.ptr 0 4) := fieldAddr_ptr (m := 0) f41_4 s3
 have fa5 : fieldAddr? cx 41 (.ptr 0 0) 5 = some (.ptr 0 5) := fieldAddr_ptr (m := 0) f41_5 s3
 have ld0 : ∀ l : List Ob, load? cx (.cells 41 S.cells :: l) 38 (.ptr 0 0) = some (.p S.p0) := fun l => load_one a38 rfl rfl
 have ld1 : ∀ l : List Ob, load? cx (.cells 41 S.cells :: l) 39 (.ptr 0 1) = some (.p S.p1) := fun l => load_one a39 rfl rfl
 have ld2 : ∀ l : List Ob, load? cx (.cells 41 S.cells :: l) 39 (.ptr 0 2) = some (.p S.p2) := fun l => load_one a39 rfl rfl
 have ld3 : ∀ l : List Ob, load? cx (.cells 41 S.cells :: l) 39 (.ptr 0 3) = some (.p S.p3) := fun l => load_one a39 rfl rfl
 have ld4 : ∀ l : List Ob, load? cx (.cells 41 S.cells :: l) 3 (.ptr 0 4) = some (.p (.int .i64 S.ver)) := fun l => load_one a3 rfl rfl
 have ld5 : ∀ l : List Ob, load? cx (.cells 41 S.cells :: l) 3 (.ptr 0 5) = some (.p (.int .i64 S.tr)) := fun l => load_one a3 rfl rfl
 have len0 : ∀ hh : List Ob, lenW cx hh 38 (.p S.p0) = _ := fun hh => (O.h0.sl hh).len u38
 by_cases c1 : ((S.pgs.length : Nat) : Int) < 2
 ·have hb : S.soundE = 2 := Spc.soundE_f fun q => by have := q.1.1; omega
  simp only [sc18r0, sc18r1, sc18r2, sc18r3, sc18r4, sc18r5, sc18r6, sc18r7, sc18r8, sc18r9, sc18r10, sc18r11, sc18r12, sc18r13, sc18r14, sc18r16, sc18r18, sc18, ↓rwS, rwT, rwG, Nat.reduceEqDiff, Nat.reduceAdd, reduceCtorEq, Nat.reduceLT, hbox, List.nil_append, List.length_nil, fa0, ld0, len0, c1, decide_true, hb]
 by_cases c2 : (4096 : Int) < ((S.pgs.length : Nat) : Int)
 ·have hb : S.soundE = 2 := Spc.soundE_f fun q => by have := q.1.2.1; omega
  simp only [sc18r0, sc18r1, sc18r2, sc18r3, sc18r4, sc18r5, sc18r6, sc18r7, sc18r8, sc18r9, sc18r10, sc18r11, sc18r12, sc18r13, sc18r14, sc18r16, sc18r18, sc18, ↓rwS, rwT, rwG, Nat.reduceEqDiff, Nat.reduceAdd, reduceCtorEq, Nat.reduceLT, hbox, List.nil_append, List.length_nil, fa0, ld0, len0, c1, c2, decide_true, decide_false, hb]
 by_cases c3 : S.ver < 0
 ·have hb : S.soundE = 2 := Spc.soundE_f fun q => by have := q.1.2.2.1; omega
  simp only [sc18r0, sc18r1, sc18r2, sc18r3, sc18r4, sc18r5, sc18r6, sc18r7, sc18r8, sc18r9, sc18r10, sc18r11, sc18r12, sc18r13, sc18r14, sc18r16, sc18r18, sc18, ↓rwS, rwT, rwG, Nat.reduceEqDiff, Nat.reduceAdd, reduceCtorEq, Nat.reduceLT, hbox, List.nil_append, List.length_nil, fa0, ld0, len0, fa4, ld4, c1, c2, c3, decide_true, decide_false, hb]
 by_cases c4 : 1099511627776 < S.ver
 ·have hb : S.soundE = 2 := Spc.soundE_f fun q => by have := q.1.2.2.2.1; omega
  simp only [sc18r0, sc18r1, sc18r2, sc18r3, sc18r4, sc18r5, sc18r6, sc18r7, sc18r8, sc18r9, sc18r10, sc18r11, sc18r12, sc18r13, sc18r14, sc18r16, sc18r18, sc18, ↓rwS, rwT, rwG, Nat.reduceEqDiff, Nat.reduceAdd, reduceCtorEq, Nat.reduceLT, hbox, List.nil_append, List.length_nil, fa0, ld0, len0, fa4, ld4, c1, c2, c3, c4, decide_true, decide_false, hb]
 by_cases c5 : S.tr < 0
 ·have hb : S.soundE = 2 := Spc.soundE_f fun q => by have := q.1.2.2.2.2.1; omega
  simp only [sc18r0, sc18r1, sc18r2, sc18r3, sc18r4, sc18r5, sc18r6, sc18r7, sc18r8, sc18r9, sc18r10, sc18r11, sc18r12, sc18r13, sc18r14, sc18r16, sc18r18, sc18, ↓rwS, rwT, rwG, Nat.reduceEqDiff, Nat.reduceAdd, reduceCtorEq, Nat.reduceLT, hbox, List.nil_append, List.length_nil, fa0, ld0, len0, fa4, ld4, fa5, ld5, c1, c2, c3, c4, c5, decide_true, decide_false, hb]
 by_cases c6 : 255 < S.tr
 ·have hb : S.soundE = 2 := Spc.soundE_f fun q => by have := q.1.2.2.2.2.2; omega
  simp only [sc18r0, sc18r1, sc18r2, sc18r3, sc18r4, sc18r5, sc18r6, sc18r7, sc18r8, sc18r9, sc18r10, sc18r11, sc18r12, sc18r13, sc18r14, sc18r16, sc18r18, sc18, ↓rwS, rwT, rwG, Nat.reduceEqDiff, Nat.reduceAdd, reduceCtorEq, Nat.reduceLT, hbox, List.nil_append, List.length_nil, fa0, ld0, len0, fa4, ld4, fa5, ld5, c1, c2, c3, c4, c5, c6, decide_true, decide_false, hb]
 have okN : S.okN := ⟨by omega, by omega, by omega, by omega, by omega, by omega⟩
 have mk : ∀ hh : List Ob, makeSlice? cx hh 109 (.p (.int .i64 ((S.pgs.length : Nat) : Int))) (.p (.int .i64 ((S.pgs.length : Nat) : Int))) = _ := fun hh => make_bools (by omega)
 have bs : ∀ hh : List Ob, buildSlice? cx hh 110 3 [(0, .p S.p1), (1, .p S.p2), (2, .p S.p3)] = .wh (.sl hh.length 0 1 0 3) (hh ++ [.row 39 1 [S.p1, S.p2, S.p3] true 0]) := fun hh => by
  have e1 : fitsA false 1 S.p1 = true := by have := O.h1; generalize S.p1 = p at this; generalize ints S.fr = xs at this; cases this <;> rfl
  have e2 : fitsA false 1 S.p2 = true := by have := O.h2; generalize S.p2 = p at this; generalize ints S.fs = xs at this; cases this <;> rfl
  have e3 : fitsA false 1 S.p3 = true := by have := O.h3; generalize S.p3 = p at this; generalize ints S.gn = xs at this; cases this <;> rfl
  unfold buildSlice?
  simp only [u110, s39, a39, pureParts, pure1, zeros?, z39]
  have : (Nat.ble (3 * (0 + 1)) 16777216 && allFit2 false (0 + 1) [(0, S.p1), (1, S.p2), (2, S.p3)] && allFit false (0 + 1) [PV.nils, PV.nils, PV.nils]) = true := by
   simp only [allFit2, e1, e2, e3, cond]; rfl
  simp only [List.replicate] at this ⊢
  rw [this]
  simp only [cond, setAll, List.length_cons, List.length_nil, lnf_eq, List.set]
  show newRowH hh 39 1 [S.p1, S.p2, S.p3] true 3 = _
  unfold newRowH
  simp only [forceN_eq, lnf_eq]
 have hS : ∀ vis, Sl [.cells 41 S.cells, .row 4 1 (marks vis S.pgs.length) true 0, .row 39 1 [S.p1, S.p2, S.p3] true 0] 1 (.sl 2 0 1 0 3) [S.p1, S.p2, S.p3] := fun vis => .sl (xs := [S.p1, S.p2, S.p3]) rfl rfl
 have hM : ∀ vis, Sl [.cells 41 S.cells, .row 4 1 (marks vis S.pgs.length) true 0, .row 39 1 [S.p1, S.p2, S.p3] true 0] 1 (.sl 1 0 1 0 S.pgs.length) (marks vis S.pgs.length) := fun vis => .sl (xs := marks vis S.pgs.length) rfl (by
  have := sub_all (marks vis S.pgs.length)
  rw [marks_len] at this; exact this)
 simp only [sc18r0, sc18r1, sc18r2, sc18r3, sc18r4, sc18r5, sc18r6, sc18r7, sc18r8, sc18r9, sc18r10, sc18r11, sc18r12, sc18r13, sc18r14, sc18r16, sc18r18, sc18, ↓rwS, rwT, rwG, Nat.reduceEqDiff, Nat.reduceAdd, reduceCtorEq, Nat.reduceLT, hbox, List.cons_append, List.nil_append, List.length_cons, List.length_nil, fa0, ld0, len0, fa4, ld4, fa5, ld5, c1, c2, c3, c4, c5, c6, decide_false, mk, fa1, fa2, fa3, ld1, ld2, ld3, bs]
 refine xC_loop (fun m t h' d r => ∃ i : Nat, m = 3 - i ∧ i ≤ 3 ∧ (∀ k, k < i → IncP (S.L k) (S.pgs.length : Nat)) ∧ (S.pre i).Nodup ∧ d = [] ∧ r = none ∧ t.get 3 = .p (.int .i64 (S.pgs.length : Nat)) ∧ t.get 4 = .sl 1 0 1 0 S.pgs.length ∧ t.get 46 = .sl 2 0 1 0 3 ∧ t.get 47 = .p (.int .i64 ((3 : Nat) : Int)) ∧ t.get 48 = .p (.int .i64 (i : Int)) ∧
   h' = [.cells 41 S.cells, .row 4 1 (marks (S.pre i) S.pgs.length) true 0, .row 39 1 [S.p1, S.p2, S.p3] true 0]) 3 ?_ ?_
 ·refine ⟨0, rfl, by omega, fun k hk => by omega, List.nodup_nil, rfl, rfl, ?_⟩
  simp only [↓rwA, rwB, rwG, Nat.reduceEqDiff, Nat.reduceAdd, reduceCtorEq, Nat.reduceLT, true_and]
  all_goals (first | rfl | exact ⟨rfl, rfl⟩ | exact ⟨rfl, rfl, rfl⟩ | exact ⟨rfl, trivial⟩ | exact trivial)
 ·rintro m t h' d r ⟨i, rfl, hi, hinc, hnd, rfl, rfl, t3, t4, t46, t47, t48, rfl⟩
  have w1 := one64 (show i < 4611686018427387904 by omega)
  by_cases hlt : (i : Int) < ((3 : Nat) : Int)
  ·have hi3 : i < 3 := by omega
   obtain ⟨hP, hLl⟩ := O.lP hi3
   have ia : indexAddr? cx 110 (.sl 2 0 1 0 3) (.p (.int .i64 (i : Int))) = some (rdS (.sl 2 0 1 0 3) i) := by
    rw [(hS []).at (sz := 0) u110 s39 (by omega) (by simp; omega), Int.toNat_natCast]
   have ld : ∀ vis, load? cx [.cells 41 S.cells, .row 4 1 (marks vis S.pgs.length) true 0, .row 39 1 [S.p1, S.p2, S.p3] true 0] 39 (rdS (.sl 2 0 1 0 3) i) = some (.p (S.P i)) := fun vis => by
    have e1 : [S.p1, S.p2, S.p3].getD i .nilp = S.P i := rfl
    rw [(hS vis).load (c := cx) (by simp; omega) (by rw [e1]; exact hP.eok), e1]
   simp only [sc18r0, sc18r1, sc18r2, sc18r3, sc18r4, sc18r5, sc18r6, sc18r7, sc18r8, sc18r9, sc18r10, sc18r11, sc18r12, sc18r13, sc18r14, sc18r16, sc18r18, sc18, sc18l17, ↓rwS, rwT, rwG, Nat.reduceEqDiff, Nat.reduceAdd, reduceCtorEq, Nat.reduceLT, t3, t4, t46, t47, t48, hlt, decide_true, ia, ld, (hP.sl _).len u39, ints_length]
   refine xC_loop (fun m t h' d r => ∃ j : Nat, m = (S.L i).length - j ∧ j ≤ (S.L i).length ∧ (∀ k, k < j → 2 ≤ (S.L i).getD k 0 ∧ (S.L i).getD k 0 < (S.pgs.length : Nat) ∧ (0 < k → (S.L i).getD (k - 1) 0 < (S.L i).getD k 0)) ∧ (S.pre i ++ (S.L i).take j).Nodup ∧ d = [] ∧ r = none ∧
    t.get 3 = .p (.int .i64 (S.pgs.length : Nat)) ∧ t.get 4 = .sl 1 0 1 0 S.pgs.length ∧ t.get 6 = .p (S.P i) ∧ t.get 46 = .sl 2 0 1 0 3 ∧ t.get 47 = .p (.int .i64 ((3 : Nat) : Int)) ∧ t.get 48 = .p (.int .i64 (i : Int)) ∧ t.get 52 = .p (S.P i) ∧ t.get 53 = .p (.int .i64 ((S.L i).length : Nat)) ∧ t.get 54 = .p (.int .i64 (j : Int)) ∧
    h' = [.cells 41 S.cells, .row 4 1 (marks (S.pre i ++ (S.L i).take j) S.pgs.length) true 0, .row 39 1 [S.p1, S.p2, S.p3] true 0]) (S.L i).length ?_ ?_
   ·refine ⟨0, rfl, by omega, fun k hk => by omega, by simpa using hnd, rfl, rfl, ?_⟩
    simp only [↓rwA, rwB, rwG, Nat.reduceEqDiff, Nat.reduceAdd, reduceCtorEq, Nat.reduceLT, true_and, t3, t4, t46, t47, t48, List.take_zero, List.append_nil]
    all_goals (first | rfl | exact ⟨rfl, rfl⟩ | exact ⟨rfl, rfl, rfl⟩ | exact ⟨rfl, trivial⟩ | exact trivial)
   ·rintro m t h' d r ⟨j, rfl, hj, hok, hnd2, rfl, rfl, t3, t4, t6, t46, t47, t48, t52, t53, t54, rfl⟩
    have w2 := one64 (show j < 4611686018427387904 by omega)
    by_cases hlj : (j : Int) < (((S.L i).length : Nat) : Int)
    ·have hjl : j < (S.L i).length := by omega
     obtain ⟨ja, jd⟩ := int_at (k := j) (hP.sl [.cells 41 S.cells, .row 4 1 (marks (S.pre i ++ (S.L i).take j) S.pgs.length) true 0, .row 39 1 [S.p1, S.p2, S.p3] true 0]) u39 hjl
     have bad : ¬(2 ≤ (S.L i).getD j 0 ∧ (S.L i).getD j 0 < (S.pgs.length : Nat) ∧ (0 < j → (S.L i).getD (j - 1) 0 < (S.L i).getD j 0)) → S.soundE = 2 := fun q => Spc.soundE_f fun hs => q (hs.2.1 i hi3 j hjl)
     by_cases b1 : (S.L i).getD j 0 < 2
     ·simp only [sc18r0, sc18r1, sc18r2, sc18r3, sc18r4, sc18r5, sc18r6, sc18r7, sc18r8, sc18r9, sc18r10, sc18r11, sc18r12, sc18r13, sc18r14, sc18l15, sc18r16, sc18l17, sc18r18, sc18, ↓rwS, rwT, rwG, Nat.reduceEqDiff, Nat.reduceAdd, reduceCtorEq, Nat.reduceLT, t3, t4, t6, t46, t47, t48, t52, t53, t54, hlj, ja, jd, b1, decide_true, bad (by omega)]
     by_cases b2 : ((S.pgs.length : Nat) : Int) ≤ (S.L i).getD j 0
     ·simp only [sc18r0, sc18r1, sc18r2, sc18r3, sc18r4, sc18r5, sc18r6, sc18r7, sc18r8, sc18r9, sc18r10, sc18r11, sc18r12, sc18r13, sc18r14, sc18l15, sc18r16, sc18l17, sc18r18, sc18, ↓rwS, rwT, rwG, Nat.reduceEqDiff, Nat.reduceAdd, reduceCtorEq, Nat.reduceLT, t3, t4, t6, t46, t47, t48, t52, t53, t54, hlj, ja, jd, b1, b2, decide_true, decide_false, bad (by omega)]
     have hx0 : 0 ≤ (S.L i).getD j 0 := by omega
     have hxn : (S.L i).getD j 0 < ((S.pgs.length : Nat) : Int) := by omega
     have hxt : ((S.L i).getD j 0).toNat < S.pgs.length := by omega
     have hxc : (((S.L i).getD j 0).toNat : Int) = (S.L i).getD j 0 := by omega
     have ma : indexAddr? cx 109 (.sl 1 0 1 0 S.pgs.length) (.p (.int .i64 ((S.L i).getD j 0))) = some (rdS (.sl 1 0 1 0 S.pgs.length) ((S.L i).getD j 0).toNat) := (hM []).at (sz := 0) u109 s4 hx0 (by rw [marks_len]; exact hxn)
     have md : load? cx [.cells 41 S.cells, .row 4 1 (marks (S.pre i ++ (S.L i).take j) S.pgs.length) true 0, .row 39 1 [S.p1, S.p2, S.p3] true 0] 4 (rdS (.sl 1 0 1 0 S.pgs.length) ((S.L i).getD j 0).toNat) = some (.p (.bool (decide ((S.L i).getD j 0 ∈ S.pre i ++ (S.L i).take j)))) := by
      have e1 : (marks (S.pre i ++ (S.L i).take j) S.pgs.length).getD ((S.L i).getD j 0).toNat .nilp = .bool (decide ((S.L i).getD j 0 ∈ S.pre i ++ (S.L i).take j)) := by
       rw [List.getD, marks_get hxt, hxc]; rfl
      rw [(hM _).load (c := cx) (by rw [marks_len]; exact hxt) (by rw [e1]; exact eok_bool a4), e1]
     have snoc : S.pre i ++ (S.L i).take (j + 1) = (S.pre i ++ (S.L i).take j) ++ [(S.L i).getD j 0] := by rw [take_snoc hjl, List.append_assoc]
     by_cases b3 : (S.L i).getD j 0 ∈ S.pre i ++ (S.L i).take j
     ·have hb : S.soundE = 2 := Spc.soundE_f fun hs => by
       have h3 : (S.pre (i + 1)).Nodup := by
        have := hs.2.2
        have hsub : ∀ a b, a ≤ b → b ≤ 3 → (S.pre b).Nodup → (S.pre a).Nodup := by
         intro a b hab hb hn
         induction b with
         | zero => rw [Nat.le_zero.1 hab]; exact hn
         | succ b ih =>
          by_cases q : a = b + 1
          ·rw [q]; exact hn
          ·rw [S.pre_succ (by omega), List.nodup_append] at hn
           exact ih (by omega) (by omega) hn.1
        exact hsub (i + 1) 3 (by omega) (Nat.le_refl _) this
       rw [S.pre_succ hi3, ← List.take_append_drop (j + 1) (S.L i), ← List.append_assoc, List.nodup_append] at h3
       have h4 := h3.1
       rw [snoc, List.nodup_append] at h4
       exact h4.2.2 _ b3 _ (List.mem_singleton.2 rfl) rfl
      simp only [sc18r0, sc18r1, sc18r2, sc18r3, sc18r4, sc18r5, sc18r6, sc18r7, sc18r8, sc18r9, sc18r10, sc18r11, sc18r12, sc18r13, sc18r14, sc18l15, sc18r16, sc18l17, sc18r18, sc18, ↓rwS, rwT, rwG, Nat.reduceEqDiff, Nat.reduceAdd, reduceCtorEq, Nat.reduceLT, t3, t4, t6, t46, t47, t48, t52, t53, t54, hlj, ja, jd, b1, b2, b3, ma, md, decide_true, decide_false, hb]
     have nd3 : (S.pre i ++ (S.L i).take (j + 1)).Nodup := by
      rw [snoc, List.nodup_append]
      refine ⟨hnd2, by simp, fun a ha b hb => ?_⟩
      rw [List.mem_singleton.1 hb]
      intro q; subst q; exact b3 ha
     have st : store? cx [.cells 41 S.cells, .row 4 1 (marks (S.pre i ++ (S.L i).take j) S.pgs.length) true 0, .row 39 1 [S.p1, S.p2, S.p3] true 0] 4 (rdS (.sl 1 0 1 0 S.pgs.length) ((S.L i).getD j 0).toNat) (.p (.bool true)) =
       .wh undefA [.cells 41 S.cells, .row 4 1 (marks (S.pre i ++ (S.L i).take (j + 1)) S.pgs.length) true 0, .row 39 1 [S.p1, S.p2, S.p3] true 0] := by
      have := store_el (c := cx) (h := [.cells 41 S.cells, .row 4 1 (marks (S.pre i ++ (S.L i).take j) S.pgs.length) true 0, .row 39 1 [S.p1, S.p2, S.p3] true 0]) (i := 1) (g := 0) (v := .bool true) s4 rfl (marks_get hxt) (fun l q => by cases q) rfl rfl
      show store? cx _ 4 (.el 1 0 1 (0 + ((S.L i).getD j 0).toNat) 0) _ = _
      rw [Nat.zero_add, this, marks_set hx0, ← snoc]; rfl
     by_cases b4 : (0 : Int) < (j : Int)
     ·obtain ⟨ja1, jd1⟩ := int_at (k := j - 1) (hP.sl [.cells 41 S.cells, .row 4 1 (marks (S.pre i ++ (S.L i).take j) S.pgs.length) true 0, .row 39 1 [S.p1, S.p2, S.p3] true 0]) u39 (by omega)
      have w3 := pred64 (show j < 4611686018427387904 by omega) (by omega)
      by_cases b5 : (S.L i).getD j 0 ≤ (S.L i).getD (j - 1) 0
      ·simp only [sc18r0, sc18r1, sc18r2, sc18r3, sc18r4, sc18r5, sc18r6, sc18r7, sc18r8, sc18r9, sc18r10, sc18r11, sc18r12, sc18r13, sc18r14, sc18l15, sc18r16, sc18l17, sc18r18, sc18, ↓rwS, rwT, rwG, Nat.reduceEqDiff, Nat.reduceAdd, reduceCtorEq, Nat.reduceLT, t3, t4, t6, t46, t47, t48, t52, t53, t54, hlj, ja, jd, b1, b2, b3, b4, b5, w3, ja1, jd1, ma, md, decide_true, decide_false, bad (by omega)]
      ·simp only [sc18r0, sc18r1, sc18r2, sc18r3, sc18r4, sc18r5, sc18r6, sc18r7, sc18r8, sc18r9, sc18r10, sc18r11, sc18r12, sc18r13, sc18r14, sc18l15, sc18r16, sc18l17, sc18r18, sc18, ↓rwS, rwT, rwG, Nat.reduceEqDiff, Nat.reduceAdd, reduceCtorEq, Nat.reduceLT, t3, t4, t6, t46, t47, t48, t52, t53, t54, hlj, ja, jd, b1, b2, b3, b4, b5, w3, ja1, jd1, ma, md, st, w2, decide_true, decide_false, true_and]
       refine ⟨_, ?_, j + 1, rfl, by omega, fun k hk => ?_, nd3, ?_⟩
       ·omega
       ·by_cases q : k = j
        ·rw [q]; exact ⟨by omega, by omega, fun _ => by omega⟩
        ·exact hok k (by omega)
       ·all_goals (first | rfl | exact ⟨rfl, rfl⟩ | exact ⟨rfl, rfl, rfl⟩ | exact ⟨rfl, trivial⟩ | exact trivial)
     ·simp only [sc18r0, sc18r1, sc18r2, sc18r3, sc18r4, sc18r5, sc18r6, sc18r7, sc18r8, sc18r9, sc18r10, sc18r11, sc18r12, sc18r13, sc18r14, sc18l15, sc18r16, sc18l17, sc18r18, sc18, ↓rwS, rwT, rwG, Nat.reduceEqDiff, Nat.reduceAdd, reduceCtorEq, Nat.reduceLT, t3, t4, t6, t46, t47, t48, t52, t53, t54, hlj, ja, jd, b1, b2, b3, b4, ma, md, st, w2, decide_true, decide_false, true_and]
      refine ⟨_, ?_, j + 1, rfl, by omega, fun k hk => ?_, nd3, ?_⟩
      ·omega
      ·by_cases q : k = j
       ·rw [q]; exact ⟨by omega, by omega, fun q => by omega⟩
       ·exact hok k (by omega)
      ·all_goals (first | rfl | exact ⟨rfl, rfl⟩ | exact ⟨rfl, rfl, rfl⟩ | exact ⟨rfl, trivial⟩ | exact trivial)
    ·have hjl : (S.L i).take j = S.L i := List.take_of_length_le (by omega)
     rw [hjl] at hnd2
     simp only [sc18r0, sc18r1, sc18r2, sc18r3, sc18r4, sc18r5, sc18r6, sc18r7, sc18r8, sc18r9, sc18r10, sc18r11, sc18r12, sc18r13, sc18r14, sc18l15, sc18r16, sc18l17, sc18r18, sc18, ↓rwS, rwT, rwG, Nat.reduceEqDiff, Nat.reduceAdd, reduceCtorEq, Nat.reduceLT, t3, t4, t6, t46, t47, t48, t52, t53, t54, hlj, decide_false, w1, true_and]
     refine ⟨_, ?_, i + 1, rfl, by omega, fun k hk => ?_, ?_, ?_⟩
     ·omega
     ·by_cases q : k = i
      ·rw [q]; exact fun a ha => hok a (by omega)
      ·exact hinc k (by omega)
     ·rw [S.pre_succ hi3]; exact hnd2
     ·rw [S.pre_succ hi3, hjl]
      all_goals (first | rfl | exact ⟨rfl, rfl⟩ | exact ⟨rfl, rfl, rfl⟩ | exact ⟨rfl, trivial⟩ | exact trivial)
  ·have hi3 : i = 3 := by omega
   subst hi3
   have hb : S.soundE = 0 := Spc.soundE_t ⟨okN, hinc, hnd⟩
   simp only [sc18r0, sc18r1, sc18r2, sc18r3, sc18r4, sc18r5, sc18r6, sc18r7, sc18r8, sc18r9, sc18r10, sc18r11, sc18r12, sc18r13, sc18r14, sc18l15, sc18r16, sc18l17, sc18r18, sc18, ↓rwS, rwT, rwG, Nat.reduceEqDiff, Nat.reduceAdd, reduceCtorEq, Nat.reduceLT, t3, t4, t46, t47, t48, hlt, decide_false, hb]
   exact trivial
end
end Go.Proofs

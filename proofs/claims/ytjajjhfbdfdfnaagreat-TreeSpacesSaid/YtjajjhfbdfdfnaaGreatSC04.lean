/- What is proved: contracts of searches in lists of numbers, of lists with and without a number. Conditions: the memory of calls holds no contract but those of the examples and of slices.Insert. -/
import Derived.Test.YtjajjhfbdfdfnaaGreatSC01
import Derived.Test.YtjajjhfbdfdfnaaGreatSA11
import Derived.Test.YtjajjhfbdfdfnaaGreatSC02
import Derived.Test.YtjajjhfbdfdfnaaGreatSA09
set_option linter.all false
set_option maxRecDepth 100000
namespace Go.Proofs
open Go Go.Ai
def FreeT (o : Orc) : Prop := ∀ f args h, f ≠ 13 → f ≠ 144 → o f args h = none
def ints (l : List Int) : List PV := l.map (.int .i64)
theorem ints_length (l : List Int) : (ints l).length = l.length := List.length_map ..
theorem ints_getD {l : List Int} {k : Nat} (hk : k < l.length) : (ints l).getD k .nilp = .int .i64 (l.getD k 0) := by
 unfold ints; simp [List.getD, hk]
theorem ints_app (l m : List Int) : ints (l ++ m) = ints l ++ ints m := List.map_append ..
theorem int_at {h v l} {k : Nat} {ty : TypeId} (H : Sl h 1 v (ints l)) (hu : cx.under ty = some (.slice 3)) (hk : k < l.length) :
  indexAddr? cx ty v (.p (.int .i64 (k : Int))) = some (rdS v k) ∧ load? cx h 3 (rdS v k) = some (.p (.int .i64 (l.getD k 0))) := by
 constructor
 ·rw [H.at hu s3 (by omega) (by rw [ints_length]; omega), Int.toNat_natCast]
 ·have := H.load (c := cx) (e := 3) (k := k) (by rw [ints_length]; exact hk) (by rw [ints_getD hk]; exact eok_int a3)
  rw [this, ints_getD hk]
section
variable {o : Orc} (ho : FreeT o)
include ho
theorem nan183 (n : Int) : Ct cx o (.fn 183 [.p (.int .i64 n)]) [] (fun e _ => e = .ret (.p (.bool false))) := by
 refine ct183 (ho _ _ _ (by decide) (by decide)) rfl ?_
 simp only [sc183, sc183r0, sc183r1, ↓rwA, rwB, rwG, Nat.reduceEqDiff, Nat.reduceAdd, reduceCtorEq, Nat.reduceLT, decide_true]
theorem nan146 (n : Int) : Ct cx o (.fn 146 [.p (.int .i64 n)]) [] (fun e _ => e = .ret (.p (.bool false))) := by
 refine ct146 (ho _ _ _ (by decide) (by decide)) rfl ?_
 simp only [sc146, sc146r0, sc146r1, ↓rwA, rwB, rwG, Nat.reduceEqDiff, Nat.reduceAdd, reduceCtorEq, Nat.reduceLT, decide_true]
theorem call183 {n : Int} {h dst t d r k Q} : callW cx o dst t h d r (some (.fn 183 [.p (.int .i64 n)])) k Q = k (put dst (.p (.bool false)) t) h d r := callW_ret ext183 (cs_p (f := 183) (ps := [.int .i64 n]) rfl (nan183 ho n))
theorem call146 {n : Int} {h dst t d r k Q} : callW cx o dst t h d r (some (.fn 146 [.p (.int .i64 n)])) k Q = k (put dst (.p (.bool false)) t) h d r := callW_ret ext146 (cs_p (f := 146) (ps := [.int .i64 n]) rfl (nan146 ho n))
theorem less145 (a b : Int) : Ct cx o (.fn 145 [.p (.int .i64 a), .p (.int .i64 b)]) [] (fun e _ => e = .ret (.p (.bool (decide (a < b))))) := by
 refine ct145 (ho _ _ _ (by decide) (by decide)) rfl ?_
 simp only [sc145, sc145r0, sc145r1, ↓rwA, rwB, rwG, Nat.reduceEqDiff, Nat.reduceAdd, reduceCtorEq, Nat.reduceLT, call183 ho]
theorem call145 {a b : Int} {h dst t d r k Q} : callW cx o dst t h d r (some (.fn 145 [.p (.int .i64 a), .p (.int .i64 b)])) k Q = k (put dst (.p (.bool (decide (a < b)))) t) h d r := callW_ret ext145 (cs_p (f := 145) (ps := [.int .i64 a, .int .i64 b]) rfl (less145 ho a b))
end
def Inc (l : List Int) : Prop := ∀ i j, i < j → j < l.length → l.getD i 0 < l.getD j 0
def lbn (l : List Int) (x : Int) : Nat := l.countP fun a => decide (a < x)
theorem lbn_of {l : List Int} {x : Int} {i : Nat} (hi : i ≤ l.length) (h1 : ∀ k, k < i → l.getD k 0 < x) (h2 : ∀ k, i ≤ k → k < l.length → x ≤ l.getD k 0) : lbn l x = i := by
 unfold lbn
 rw [← List.take_append_drop i l, List.countP_append]
 have e1 : (l.take i).countP (fun a => decide (a < x)) = i := by
  rw [List.countP_eq_length.2 ?_, List.length_take, Nat.min_eq_left hi]
  intro a ha
  obtain ⟨k, hk⟩ := List.getElem?_of_mem ha
  rw [List.getElem?_take] at hk
  split at hk
  ·rename_i hki
   have := h1 k hki
   rw [List.getD, hk] at this
   simpa using this
  ·cases hk
 have e2 : (l.drop i).countP (fun a => decide (a < x)) = 0 := by
  rw [List.countP_eq_zero]
  intro a ha
  obtain ⟨k, hk⟩ := List.getElem?_of_mem ha
  rw [List.getElem?_drop] at hk
  have hl := (List.getElem?_eq_some_iff.1 hk).1
  have := h2 (i + k) (by omega) hl
  rw [List.getD, hk] at this
  simpa using this
 rw [e1, e2]; rfl
theorem mem_lbn {l : List Int} {x : Int} {i : Nat} (hi : i ≤ l.length) (h1 : ∀ k, k < i → l.getD k 0 < x) (h2 : ∀ k, i ≤ k → k < l.length → x ≤ l.getD k 0) (hs : Inc l) : decide (x ∈ l) = (decide (i < l.length) && decide (l.getD i 0 = x)) := by
 rw [Bool.eq_iff_iff]
 simp only [decide_eq_true_eq, Bool.and_eq_true]
 constructor
 ·intro hx
  obtain ⟨k, hk⟩ := List.getElem?_of_mem hx
  have hl := (List.getElem?_eq_some_iff.1 hk).1
  have hg : l.getD k 0 = x := by rw [List.getD, hk]; rfl
  have hik : i ≤ k := by
   by_cases q : k < i
   ·have := h1 k q; omega
   ·omega
  have hki : k = i := by
   by_cases q : i < k
   ·have := hs i k q hl
    have := h2 i (Nat.le_refl _) (by omega)
    omega
   ·omega
  subst hki
  exact ⟨hl, hg⟩
 ·rintro ⟨h3, h4⟩
  rw [← h4, List.getD, List.getElem?_eq_getElem h3]
  exact List.getElem_mem h3
theorem shr_w1 {c : Ctx} {ty : TypeId} {q : Bool} {a : Int} : bin3 .shr c ty q (.p (.int .u64 a)) (.p (.int .u64 1)) = .w (.p (.int .u64 (a.fdiv 2))) := by
 show cond (ltI 1 0) .no (resI .u64 (a.fdiv (2 ^ (min (1 : Int).toNat 64)))) = _
 rw [ltI_eq, decide_eq_false (by omega)]
 exact resI_eq _ _
theorem mid_eq {a b : Nat} (h : a + b < 4611686018427387904) : IntKind.wrap .i64 ((IntKind.wrap .u64 (IntKind.wrap .i64 ((a : Int) + (b : Int)))).fdiv 2) = (((a + b) / 2 : Nat) : Int) := by
 rw [wrap64_id (n := (a : Int) + (b : Int)) (by omega) (by omega), wrapU64_eq]
 have : ((a : Int) + (b : Int)) % 18446744073709551616 = ((a + b : Nat) : Int) := by omega
 rw [this]
 have : ((a + b : Nat) : Int).fdiv 2 = (((a + b) / 2 : Nat) : Int) := by
  rw [Int.fdiv_eq_ediv_of_nonneg _ (by decide)]; omega
 rw [this, wrap64_id (by omega) (by omega)]
theorem search107 {o : Orc} (ho : FreeT o) {h v l} {x : Int} (H : Sl h 1 v (ints l)) (hs : Inc l) (hl : l.length < 1000000000) :
  Ct cx o (.fn 107 [v, .p (.int .i64 x)]) h (fun e h' => h' = h ∧ e = .ret (.tup [.p (.int .i64 (lbn l x : Nat)), .p (.bool (decide (x ∈ l)))])) := by
 refine ct107 (ho _ _ _ (by decide) (by decide)) rfl ?_
 simp only [sc107, sc107r0, sc107r1, sc107r2, rwU, rwV, ↓rwA, rwB, rwG, Nat.reduceEqDiff, Nat.reduceAdd, reduceCtorEq, Nat.reduceLT, H.len u39, ints_length]
 refine xC_loop (fun n t h' d r => ∃ lo hi : Nat, n = hi - lo ∧ lo ≤ hi ∧ hi ≤ l.length ∧ (∀ k, k < lo → l.getD k 0 < x) ∧ (∀ k, hi ≤ k → k < l.length → x ≤ l.getD k 0) ∧ d = [] ∧ r = none ∧ h' = h ∧ t.get 0 = v ∧ t.get 1 = .p (.int .i64 x) ∧ t.get 6 = .p (.int .i64 (l.length : Nat)) ∧ t.get 7 = .p (.int .i64 (lo : Int)) ∧ t.get 8 = .p (.int .i64 (hi : Int))) l.length ?_ ?_
 ·refine ⟨0, l.length, rfl, by omega, by omega, fun k hk => by omega, fun k hk hk' => by omega, rfl, rfl, rfl, ?_⟩
  simp only [↓rwA, rwB, rwG, Nat.reduceEqDiff, Nat.reduceAdd, reduceCtorEq, Nat.reduceLT, true_and]
  exact ⟨rfl, trivial⟩
 ·rintro n t h' d r ⟨lo, hi, rfl, h1, h2, h3, h4, rfl, rfl, rfl, t0, t1, t6, t7, t8⟩
  by_cases hlt : (lo : Int) < (hi : Int)
  ·have hm := mid_eq (a := lo) (b := hi) (by omega)
   have hml : (lo + hi) / 2 < l.length := by omega
   obtain ⟨ia, ld⟩ := int_at (k := (lo + hi) / 2) H u39 hml
   have cv1 : ∀ hh m, conv3 cx hh 3 228 (.p (.int .i64 m)) = .w (.p (.int .u64 (IntKind.wrap .u64 m))) := fun hh m => conv_int u3 u228
   have cv2 : ∀ hh m, conv3 cx hh 228 3 (.p (.int .u64 m)) = .w (.p (.int .i64 (IntKind.wrap .i64 m))) := fun hh m => conv_int u228 u3
   have hw1 : IntKind.wrap .i64 ((((lo + hi) / 2 : Nat) : Int) + 1) = (((lo + hi) / 2 + 1 : Nat) : Int) := by rw [wrap64_id (by omega) (by omega)]; omega
   by_cases hx : l.getD ((lo + hi) / 2) 0 < x
   ·simp only [sc107l8, sc107r3, sc107r4, sc107r5, sc107r6, rwU, rwV, ↓rwA, rwB, rwG, Nat.reduceEqDiff, Nat.reduceAdd, reduceCtorEq, Nat.reduceLT, t0, t1, t6, t7, t8, hlt, decide_true, cv1, cv2, shr_w1, hm, ia, ld, call145 ho, hx, hw1, true_and]
    refine ⟨_, ?_, (lo + hi) / 2 + 1, hi, rfl, by omega, h2, fun k hk => ?_, h4, ?_⟩
    ·omega
    ·by_cases q : k = (lo + hi) / 2
     ·rw [q]; exact hx
     ·have := hs k ((lo + hi) / 2) (by omega) hml; omega
    ·first | rfl | exact ⟨rfl, rfl⟩ | exact trivial
   ·simp only [sc107l8, sc107r3, sc107r4, sc107r5, sc107r7, rwU, rwV, ↓rwA, rwB, rwG, Nat.reduceEqDiff, Nat.reduceAdd, reduceCtorEq, Nat.reduceLT, t0, t1, t6, t7, t8, hlt, decide_true, decide_false, cv1, cv2, shr_w1, hm, ia, ld, call145 ho, hx, true_and]
    refine ⟨_, ?_, lo, (lo + hi) / 2, rfl, by omega, by omega, h3, fun k hk hk' => ?_, ?_⟩
    ·omega
    ·by_cases q : k = (lo + hi) / 2
     ·rw [q]; omega
     ·have := hs ((lo + hi) / 2) k (by omega) hk'; omega
    ·first | rfl | exact ⟨rfl, rfl⟩ | exact trivial
  ·have he : lo = hi := by omega
   subst he
   have hlb := lbn_of h2 h3 h4
   have hmem := mem_lbn h2 h3 h4 hs
   by_cases hn : (lo : Int) < ((l.length : Nat) : Int)
   ·obtain ⟨ia, ld⟩ := int_at (k := lo) H u39 (by omega)
    by_cases hx : l.getD lo 0 = x
    ·simp only [sc107l8, sc107r3, sc107r9, rwU, rwV, ↓rwA, rwB, rwG, Nat.reduceEqDiff, Nat.reduceAdd, reduceCtorEq, Nat.reduceLT, t0, t1, t6, t7, t8, hlt, hn, decide_true, decide_false, ia, ld, hx, call146 ho, true_and]
     rw [hlb, hmem, decide_eq_true (show lo < l.length by omega), decide_eq_true hx]; rfl
    ·simp only [sc107l8, sc107r3, sc107r9, rwU, rwV, ↓rwA, rwB, rwG, Nat.reduceEqDiff, Nat.reduceAdd, reduceCtorEq, Nat.reduceLT, t0, t1, t6, t7, t8, hlt, hn, decide_true, decide_false, ia, ld, hx, call146 ho, true_and]
     rw [hlb, hmem, decide_eq_false hx, Bool.and_false]
   ·simp only [sc107l8, sc107r3, sc107r9, rwU, rwV, ↓rwA, rwB, rwG, Nat.reduceEqDiff, Nat.reduceAdd, reduceCtorEq, Nat.reduceLT, t0, t1, t6, t7, t8, hlt, hn, decide_false, call146 ho, true_and]
    rw [hlb, hmem, decide_eq_false (show ¬lo < l.length by omega)]
    try rfl
theorem z79 : zero? cx 79 = some (.agg [.int .i64 0, .int .i64 0, .int .i64 0, .int .i64 0, .int .i64 0, .bool false, .nils, .int .i64 0, .str [], .nils]) := by kernel_rfl
theorem room79 : room cx 79 1000000000 = true := by kernel_rfl
theorem z170 : zero? cx 170 = some (.agg [.int .i64 0]) := by kernel_rfl
theorem f170_0 : (fieldOf cx 170 0).map (fun f => (f.type, f.offset)) = some (25, 0) := by kernel_rfl
def failV (e : Int) : PV := .face 170 (.agg [.int .i64 e])
theorem b170 (e : Int) : build? cx 170 [(0, .p (.int .i64 e))] = some (.p (.agg [.int .i64 e])) := by kernel_rfl
theorem mf170 (p : PV) : mkFace cx 170 (.p p) = some (.p (.face 170 p)) := by kernel_rfl
section
variable {o : Orc} (ho : FreeT o)
include ho
theorem need53_t (e : Int) : Ct cx o (.fn 53 [.p (.bool true), .p (.int .i64 e)]) [] (fun en _ => en = .ret (.tup [])) := by
 refine ct53 (ho _ _ _ (by decide) (by decide)) rfl ?_
 simp only [sc53, sc53r0, sc53r1, ↓rwS, rwT, rwG, Nat.reduceEqDiff, Nat.reduceAdd, reduceCtorEq, Nat.reduceLT]
theorem need53_f (e : Int) : Ct cx o (.fn 53 [.p (.bool false), .p (.int .i64 e)]) [] (fun en _ => en = .pan (.p (failV e))) := by
 refine ct53 (ho _ _ _ (by decide) (by decide)) rfl ?_
 simp only [sc53, sc53r0, sc53r1, ↓rwS, rwT, rwG, Nat.reduceEqDiff, Nat.reduceAdd, reduceCtorEq, Nat.reduceLT, b170, mf170]
 first | exact ⟨rfl, rfl⟩ | trivial
theorem call53_t {e : Int} {h dst t d r k Q} : callW cx o dst t h d r (some (.fn 53 [.p (.bool true), .p (.int .i64 e)])) k Q = k (put dst (.tup []) t) h d r := callW_ret ext53 (cs_p (f := 53) (ps := [.bool true, .int .i64 e]) rfl (need53_t ho e))
theorem call53_f {e : Int} {h dst t d r k Q} : callW cx o dst t h d r (some (.fn 53 [.p (.bool false), .p (.int .i64 e)])) k Q = Q (.pan (.p (failV e))) t h d r := callW_pan ext53 (cs_panP (f := 53) (ps := [.bool false, .int .i64 e]) (need53_f ho e))
theorem clone103 {h v cv l} (H : Co1 h v cv) (hs : IsS 1 cv (ints l)) (hl : l.length < 1000000) :
  Ct cx o (.fn 103 [v]) h (fun e h1 => (∃ ext, h1 = h ++ ext) ∧ CoE h1 e (.val (clV 3 1 cv (ints l))) ∧ (True → ∃ v q, e = .ret v ∧ Co h1 v q ∧ ∀ i ∈ idsA v, h.length ≤ i)) := by
 have hS := H.sl' hs
 have hq : ∀ b, bin3 .eql cx 39 b v (.p .nils) = _ := fun b => sl_nilEq u39 H hs
 refine ct103 (ho _ _ _ (by decide) (by decide)) rfl ?_
 cases hn : cv.isNil
 ·have hcl : clV 3 1 cv (ints l) = .own 3 1 (ints l) := by unfold clV; rw [hn]; rfl
  have hb : ∀ hh : List Ob, buildSlice? cx hh 39 0 [] = _ := fun hh => build0 u39 s3 a3 z3
  obtain ⟨v1, h1, a1, ⟨j, g, a2, a2'⟩, a3', a4, a5, a6⟩ := app_any (c := cx) (o := o) (rd := none) (h := h ++ [.row 3 1 [] true 0]) (i := h.length) (g := 0) (xs := []) (x := v) (hget_new _ _) s3 (by decide) (hS.ext [.row 3 1 [] true 0]).elems (hS.ext [.row 3 1 [] true 0]).szIsB (room_le room3 (by rw [ints_length]; simp; omega))
  simp only [List.length_nil, List.nil_append] at a1 a2 a6
  simp only [sc103, sc103r0, sc103r1, sc103r3, ↓rwS, rwT, rwG, Nat.reduceEqDiff, Nat.reduceAdd, reduceCtorEq, Nat.reduceLT, hq, hn, hb, appW_sl u39 u39, a6]
  rw [hcl]
  refine ⟨ext_of (by rw [List.length_append] at a3'; exact Nat.le_of_succ_le a3') fun i hi => ?_, .val (.one ?_), fun _ => ⟨_, _, rfl, .one (a1.co1 (by rw [a2]; intro q; cases q)), ?_⟩⟩
  ·rw [a4 i (by rw [List.length_append]; exact Nat.lt_succ_of_lt hi) (by omega), hget_app _ _ _ hi]
  ·exact a1.co1 (by rw [a2]; intro q; cases q)
  ·intro i hi
   rw [a2] at hi
   have hi : i ∈ [j] := hi
   rw [List.mem_singleton.1 hi]
   rcases a2' with q | q
   ·omega
   ·rw [List.length_append] at q; omega
 ·have hcl : clV 3 1 cv (ints l) = .pv .nils := by unfold clV; rw [hn]; rfl
  simp only [sc103, sc103r0, sc103r1, sc103r2, ↓rwS, rwT, rwG, Nat.reduceEqDiff, Nat.reduceAdd, reduceCtorEq, Nat.reduceLT, hq, hn]
  rw [hcl]
  exact ⟨⟨[], by simp⟩, .val (.one (.p _)), fun _ => ⟨_, _, rfl, .one (.p _), fun i hi => (by cases hi)⟩⟩
theorem clone102 {h v cv xs} (H : Co1 h v cv) (hs : IsS 10 cv xs) (hl : xs.length < 1000000) :
  Ct cx o (.fn 102 [v]) h (fun e h1 => (∃ ext, h1 = h ++ ext) ∧ CoE h1 e (.val (clV 79 10 cv xs)) ∧ (True → ∃ v q, e = .ret v ∧ Co h1 v q ∧ ∀ i ∈ idsA v, h.length ≤ i)) := by
 have hS := H.sl' hs
 have hq : ∀ b, bin3 .eql cx 38 b v (.p .nils) = _ := fun b => sl_nilEq u38 H hs
 refine ct102 (ho _ _ _ (by decide) (by decide)) rfl ?_
 cases hn : cv.isNil
 ·have hcl : clV 79 10 cv xs = .own 79 10 xs := by unfold clV; rw [hn]; rfl
  have hb : ∀ hh : List Ob, buildSlice? cx hh 38 0 [] = _ := fun hh => build0 u38 s79 a79 z79
  obtain ⟨v1, h1, a1, ⟨j, g, a2, a2'⟩, a3', a4, a5, a6⟩ := app_any (c := cx) (o := o) (rd := none) (h := h ++ [.row 79 10 [] true 0]) (i := h.length) (g := 0) (xs := []) (x := v) (hget_new _ _) s79 (by decide) (hS.ext [.row 79 10 [] true 0]).elems (hS.ext [.row 79 10 [] true 0]).szIsB (room_le room79 (by simp; omega))
  simp only [List.length_nil, List.nil_append] at a1 a2 a6
  simp only [sc102, sc102r0, sc102r1, sc102r3, ↓rwS, rwT, rwG, Nat.reduceEqDiff, Nat.reduceAdd, reduceCtorEq, Nat.reduceLT, hq, hn, hb, appW_sl u38 u38, a6]
  rw [hcl]
  refine ⟨ext_of (by rw [List.length_append] at a3'; exact Nat.le_of_succ_le a3') fun i hi => ?_, .val (.one ?_), fun _ => ⟨_, _, rfl, .one (a1.co1 (by rw [a2]; intro q; cases q)), ?_⟩⟩
  ·rw [a4 i (by rw [List.length_append]; exact Nat.lt_succ_of_lt hi) (by omega), hget_app _ _ _ hi]
  ·exact a1.co1 (by rw [a2]; intro q; cases q)
  ·intro i hi
   rw [a2] at hi
   have hi : i ∈ [j] := hi
   rw [List.mem_singleton.1 hi]
   rcases a2' with q | q
   ·omega
   ·rw [List.length_append] at q; omega
 ·have hcl : clV 79 10 cv xs = .pv .nils := by unfold clV; rw [hn]; rfl
  simp only [sc102, sc102r0, sc102r1, sc102r2, ↓rwS, rwT, rwG, Nat.reduceEqDiff, Nat.reduceAdd, reduceCtorEq, Nat.reduceLT, hq, hn]
  rw [hcl]
  exact ⟨⟨[], by simp⟩, .val (.one (.p _)), fun _ => ⟨_, _, rfl, .one (.p _), fun i hi => (by cases hi)⟩⟩
theorem call107 {h v cv l} {x : Int} {dst t d r k Q} (H : Co1 h v cv) (hs : IsS 1 cv (ints l)) (hi : Inc l) (hl : l.length < 1000000000) :
  callW cx o dst t h d r (some (.fn 107 [v, .p (.int .i64 x)])) k Q = k (put dst (.tup [.p (.int .i64 (lbn l x : Nat)), .p (.bool (decide (x ∈ l)))]) t) h d r :=
 callW_ret ext107 (cs_pure (ps := [cv, .pv (.int .i64 x)]) (.cons (.one H) (.cons (.one (.p _)) .nil)) rfl fun h0 as0 H0 => by
  cases H0 with
  | cons h1 H1 => cases H1 with
   | cons h2 H2 => cases H2 with
    | nil =>
     have hv := h1.sl' hs
     have : ∀ {b}, Co h0 b (.pv (.int .i64 x)) → b = .p (.int .i64 x) := by
      intro b hb
      cases hb with
      | one hb => cases hb; rfl
     rw [this h2]
     obtain ⟨e, h', hr, rfl, rfl⟩ := search107 ho hv hi hl (x := x)
     exact ⟨_, _, hr, rfl, [], by simp⟩)
theorem has54 {h v cv l} {x : Int} (H : Co1 h v cv) (hs : IsS 1 cv (ints l)) (hi : Inc l) (hl : l.length < 1000000000) :
  Ct cx o (.fn 54 [v, .p (.int .i64 x)]) h (fun e h' => h' = h ∧ e = .ret (.p (.bool (decide (x ∈ l))))) := by
 refine ct54 (ho _ _ _ (by decide) (by decide)) rfl ?_
 simp only [sc54, sc54r0, sc54r1, sc54r2, ↓rwS, rwT, rwG, Nat.reduceEqDiff, Nat.reduceAdd, reduceCtorEq, Nat.reduceLT, call107 ho H hs hi hl, extractW, aget_eq']
 first | exact ⟨rfl, rfl⟩ | exact ⟨trivial, rfl⟩ | trivial
end
theorem rec47_ret {o : Orc} (n : Int) : CtR cx o (.fn 47 [.ptr 0 0]) [.cells 25 [.p (.int .i64 n)]] .ret (fun e h' r' => e = .ret (.tup []) ∧ h' = [.cells 25 [.p (.int .i64 n)]] ∧ r' = some .ret) := by
 refine ct_scR fn47 sc47_ok rfl rfl rfl sc47_dst ?_
 have e1 : bin3 .eql cx 20 (isConst (.tmp 5) || isConst (.const .nilIface)) (.p .nili) (.p .nili) = .w (.p (.bool true)) := by kernel_rfl
 simp only [sc47, sc47r0, sc47r1, sc47r2, ↓rwS, rwT, rwG, Nat.reduceEqDiff, Nat.reduceAdd, reduceCtorEq, Nat.reduceLT, e1, endPR_ret, endPR_n]
 refine ⟨?_, ?_, ?_⟩ <;> first | rfl | trivial
theorem rec47_pan {o : Orc} (n x : Int) : CtR cx o (.fn 47 [.ptr 0 0]) [.cells 25 [.p (.int .i64 n)]] (.pan (.p (failV x)) false) (fun e h' r' => e = .ret (.tup []) ∧ (∃ ext, h' = .cells 25 [.p (.int .i64 x)] :: ext) ∧ r' = some (.pan (.p (failV x)) true)) := by
 refine ct_scR fn47 sc47_ok rfl rfl rfl sc47_dst ?_
 have e1 : ∀ b, bin3 .eql cx 20 b (.p (failV x)) (.p .nili) = .w (.p (.bool false)) := fun b => by kernel_rfl
 have e2 : typeAssert? cx 170 true (.p (failV x)) = some (.tup [.p (.agg [.int .i64 x]), .p (.bool true)]) := by kernel_rfl
 have st : store? cx [.cells 25 [.p (.int .i64 n)], .cells 170 [.p (.int .i64 0)]] 170 (.ptr 1 0) (.p (.agg [.int .i64 x])) = .ws undefA 1 (.cells 170 [.p (.int .i64 x)]) := store_whole s170 rfl rfl rfl rfl
 have fa : fieldAddr? cx 170 (.ptr 1 0) 0 = some (.ptr 1 0) := fieldAddr_ptr (m := 0) f170_0 s25
 have ld : load? cx [.cells 25 [.p (.int .i64 n)], .cells 170 [.p (.int .i64 x)]] 25 (.ptr 1 0) = some (.p (.int .i64 x)) := load_one a25 rfl rfl
 have st2 : store? cx [.cells 25 [.p (.int .i64 n)], .cells 170 [.p (.int .i64 x)]] 25 (.ptr 0 0) (.p (.int .i64 x)) = .ws undefA 0 (.cells 25 [.p (.int .i64 x)]) := store_one (cs := [.p (.int .i64 n)]) s25 rfl rfl (by simp)
 simp only [sc47, sc47r0, sc47r1, sc47r3, sc47r4, sc47r5, ↓rwS, rwT, rwG, Nat.reduceEqDiff, Nat.reduceAdd, reduceCtorEq, Nat.reduceLT, e1, e2, extractW, aget_eq', z170, PV.cells, List.map_cons, List.map_nil, List.getElem?_cons_zero, List.getElem?_cons_succ, List.length_cons, List.length_nil, st, List.cons_append, List.nil_append, hset2_1, fa, ld, st2, endPR_ret, endPR_n]
 refine ⟨?_, ?_, ?_⟩ <;> first | rfl | exact ⟨_, rfl⟩ | trivial
def HasIns (o : Orc) : Prop := ∀ args h, o 144 args h = insO cx 3 1 8 args h
def insL (l : List Int) (k : Nat) (x : Int) : List Int := l.take k ++ x :: l.drop k
theorem ints_ins (l : List Int) (k : Nat) (x : Int) : ints (insL l k x) = (ints l).take k ++ .int .i64 x :: (ints l).drop k := by
 unfold ints insL
 rw [List.map_append, List.map_cons, List.map_take, List.map_drop]
theorem ins_run {h v l j g2 ex2} {k : Nat} {x : Int} (H : Own h 3 1 v (ints l)) (hw : hget h j = .row 3 1 [.int .i64 x] ex2 g2) (hne : j ∉ ids1 v) (hk : k ≤ l.length) (hl : l.length < 1000000) :
  ∃ v' h', insO cx 3 1 8 [v, .p (.int .i64 (k : Int)), .sl j g2 1 0 1] h = some (.ret v', h') ∧ Co1 h' v' (.own 3 1 (ints (insL l k x))) ∧ h.length ≤ h'.length ∧ (∀ i, i < h.length → flat (hget h i) = true → flat (hget h' i) = true) := by
 have hone : rowOne h j g2 1 0 = some (.int .i64 x) := by
  unfold rowOne
  rw [hw]
  simp only [Nat.beq_refl, Bool.and_self, cond]; rfl
 have hel : elems? h (.sl j g2 1 0 1) = some [.int .i64 x] := elems_sl1 (xs := [.int .i64 x]) hw
 unfold insO
 simp only
 show ∃ v' h', cond (Nat.beq (knd .i64) 3 && (Nat.beq 1 1 && Nat.beq 1 1)) _ none = _ ∧ _
 rw [show (Nat.beq (knd .i64) 3 && (Nat.beq 1 1 && Nat.beq 1 1)) = true from rfl]
 simp only [cond, hone]
 generalize hxs : ints l = xs at H
 have hxl : xs.length = l.length := by rw [← hxs, ints_length]
 cases H with
 | nil =>
  have hl0 : l = [] := by unfold ints at hxs; exact List.map_eq_nil_iff.1 hxs
  subst hl0
  have hk0 : k = 0 := by simpa using hk
  subst hk0
  simp only [Nat.beq_refl, cond]
  have := append_nil0 (c := cx) (h := h) (e := 3) (x := .sl j g2 1 0 1) s3 rfl hel rfl (by simp) (room_le room3 (by simp))
  rw [this]
  simp only [insEnd, lnf_eq]
  refine ⟨_, _, rfl, .own (xs := [.int .i64 x]) (hget_new _ _), by simp, fun i hi hf => by rw [hget_app _ _ _ hi]; exact hf⟩
 | @row i g _ ex hrow =>
  simp only [Nat.beq_refl, Bool.and_self, cond]
  have hi := hget_flat_lt (h := h) (i := i) (by rw [hrow]; rfl)
  by_cases hkl : k = xs.length
  ·rw [hkl, Nat.beq_refl]
   have hlt : Nat.blt xs.length 9223372036854775807 = true := Nat.ble_eq_true_of_le (by omega)
   simp only [hlt, cond]
   have hins : ints (insL l l.length x) = xs ++ [.int .i64 x] := by
    rw [ints_ins, hxs, ← hxl, List.take_length, List.drop_length]
   have hnb : Nat.ble (0 + xs.length + 1) xs.length = false := by
    rw [Bool.eq_false_iff]; intro q
    have := Nat.le_of_ble_eq_true q
    omega
   rw [← hxl] at *
   rw [hins]
   cases ex with
   | false =>
    have : append? cx h 3 (.sl i g 1 0 xs.length) (.sl j g2 1 0 1) = .ws (.sl i (g + 1) 1 0 (xs.length + 1)) i (.row 3 1 (xs ++ [.int .i64 x]) false (g + 1)) := by
     unfold append?
     simp only [s3, hel, cond, List.length_singleton, room_le room3 (show xs.length + 1 ≤ 1000000000 by omega), show (Nat.ble 1 1 && szIsB 1 (.sl j g2 1 0 1)) = true from rfl, Nat.beq_refl, Bool.true_and]
     unfold appSl
     simp only [hrow, Nat.beq_refl, Bool.true_and, cond, List.length_singleton, hnb, lnf_eq, forceN_eq]
    rw [this]
    simp only [insEnd, hsetK_eq]
    refine ⟨_, _, rfl, ?_, by rw [hset_length]; exact Nat.le_refl _, fun a ha hf => ?_⟩
    ·have := Co1.own (h := hset h i (.row 3 1 (xs ++ [.int .i64 x]) false (g + 1))) (i := i) (g := g + 1) (e := 3) (sz := 1) (xs := xs ++ [.int .i64 x]) (ex := false) (by rw [hget_hset _ _ _ _ hi, if_pos rfl])
     simpa using this
    ·rw [hget_hset _ _ _ _ hi]
     split
     ·rfl
     ·exact hf
   | true =>
    have : append? cx h 3 (.sl i g 1 0 xs.length) (.sl j g2 1 0 1) = .wn (.sl h.length 0 1 0 (xs.length + 1)) (.row 3 1 (xs ++ [.int .i64 x]) false 0) := by
     unfold append?
     simp only [s3, hel, cond, List.length_singleton, room_le room3 (show xs.length + 1 ≤ 1000000000 by omega), show (Nat.ble 1 1 && szIsB 1 (.sl j g2 1 0 1)) = true from rfl, Nat.beq_refl, Bool.true_and]
     unfold appSl
     simp only [hrow, Nat.beq_refl, Bool.true_and, cond, List.length_singleton, hnb, sub_all]
     unfold Ai.newRow
     simp only [forceN_eq, lnf_eq]
    rw [this]
    simp only [insEnd, lnf_eq]
    refine ⟨_, _, rfl, ?_, by simp, fun a ha hf => by rw [hget_app _ _ _ ha]; exact hf⟩
    have := Co1.own (h := h ++ [.row 3 1 (xs ++ [.int .i64 x]) false 0]) (i := h.length) (g := 0) (e := 3) (sz := 1) (xs := xs ++ [.int .i64 x]) (ex := false) (hget_new _ _)
    simpa using this
  ·have hkb : Nat.beq k xs.length = false := Bool.eq_false_iff.2 fun q => hkl (Nat.eq_of_beq_eq_true q)
   have hkl2 : Nat.blt k xs.length = true := Nat.ble_eq_true_of_le (by omega)
   have hij : Nat.beq i j = false := Bool.eq_false_iff.2 fun q => hne (by rw [Nat.eq_of_beq_eq_true q]; exact List.mem_singleton.2 rfl)
   simp only [hkb, hkl2, hij, Bool.not_false, Bool.and_self, cond]
   unfold insMid
   simp only [hrow, Nat.beq_refl, Bool.true_and]
   have hbl : Nat.ble ((xs.length + 1) * 8) 140737488355328 = true := Nat.ble_eq_true_of_le (by omega)
   simp only [hbl, cond, forceN_eq, lnf_eq, hsetK_eq]
   refine ⟨_, _, rfl, ?_, by rw [hset_length]; exact Nat.le_refl _, fun a ha hf => ?_⟩
   ·have hins : ints (insL l k x) = xs.take k ++ .int .i64 x :: xs.drop k := by rw [ints_ins, hxs]
    rw [hins]
    have hlen : (xs.take k ++ PV.int .i64 x :: xs.drop k).length = xs.length + 1 := by
     rw [List.length_append, List.length_take, List.length_cons, List.length_drop]; omega
    have := Co1.own (h := hset h i (.row 3 1 (xs.take k ++ .int .i64 x :: xs.drop k) false (g + 1))) (i := i) (g := g + 1) (e := 3) (sz := 1) (xs := xs.take k ++ .int .i64 x :: xs.drop k) (ex := false) (by rw [hget_hset _ _ _ _ hi, if_pos rfl])
    rw [hlen] at this
    exact this
   ·rw [hget_hset _ _ _ _ hi]
    split
    ·rfl
    ·exact hf
theorem own_inv {h v e sz xs} (H : Co1 h v (.own e sz xs)) : Own h e sz v xs := by
 cases H with
 | own hr => exact .row hr
theorem ct_ins {o : Orc} (hI : HasIns o) {h v w l} {k : Nat} {x : Int} {cv : CV} (hcv : cv = .pv .nils ∧ l = [] ∨ cv = .own 3 1 (ints l)) (Hv : Co1 h v cv) (Hw : Co1 h w (.own 3 1 [.int .i64 x])) (hnd : (ids1 v ++ ids1 w).Nodup) (hk : k ≤ l.length) (hl : l.length < 1000000) :
  Ct cx o (.fn 144 [v, .p (.int .i64 (k : Int)), w]) h (fun e h1 => h.length ≤ h1.length ∧ (∀ i, i < h.length → flat (hget h i) = true → flat (hget h1 i) = true) ∧ CoE h1 e (.val (.own 3 1 (ints (insL l k x))))) := by
 have H : Own h 3 1 v (ints l) := by
  rcases hcv with ⟨rfl, rfl⟩ | rfl
  ·cases Hv with | p => exact .nil
  ·exact own_inv Hv
 cases hw : w with
 | sl j g2 sz off n =>
  subst hw
  generalize hy : ([.int .i64 x] : List PV) = ys at Hw
  cases Hw with
  | @own _ _ _ _ _ ex hr =>
   subst hy
   obtain ⟨v', h', h1, h2, h3, h4⟩ := ins_run (k := k) H hr (by
    rw [List.nodup_append] at hnd
    intro q
    exact hnd.2.2 _ q _ (List.mem_singleton.2 rfl) rfl) hk hl
   refine ⟨.ret v', h', ⟨1, fun n hn => ?_⟩, h3, h4, .val (.one h2)⟩
   obtain ⟨n, rfl⟩ : ∃ i, n = i + 1 := ⟨n - 1, by omega⟩
   show callFn cx o n (callN cx o n) 144 _ h none = _
   unfold callFn
   have h9 := hI [v, AV.p (PV.int IntKind.i64 (k : Int)), AV.sl j g2 1 0 1] h
   rw [h1] at h9
   simp only [List.length_singleton, h9]
 | _ => subst hw; cases Hw
theorem ext144 : cx.ext 144 = none := by kernel_rfl
def withV (cv : CV) (l : List Int) (x : Int) : CV := if x ∈ l then cv else .own 3 1 (ints (insL l (lbn l x) x))
section
variable {o : Orc} (ho : FreeT o) (hI : HasIns o)
include ho hI
theorem clone_cs {h v cv l} (H : Co1 h v cv) (hs : IsS 1 cv (ints l)) (hl : l.length < 1000000) :
  ∃ v1 ext, CS cx o (.fn 103 [v]) h (.ret v1) (h ++ ext) ∧ Co1 (h ++ ext) v1 (clV 3 1 cv (ints l)) ∧ ∀ i ∈ ids1 v1, h.length ≤ i := by
 obtain ⟨e, ext, h1, h2, h3⟩ := cs_valF True (c := cx) (o := o) (f := 103) (h := h) («as» := [v]) (ps := [cv]) (qe := .val (clV 3 1 cv (ints l))) (.cons (.one H) .nil) fun h0 as0 H0 => by
  obtain ⟨v0, rfl, hv0⟩ := l2_1 H0
  obtain ⟨e, h', hr, a, b, c⟩ := clone103 ho (hv0.one_s hs) hs hl
  exact ⟨e, h', hr, a, b, fun _ => by obtain ⟨v, q, q1, q2, q3⟩ := c trivial; exact ⟨v, _, q1, q2, q3⟩⟩
 obtain ⟨v1, rfl, hv1⟩ := h2.val_inv
 obtain ⟨v2, q1, q2⟩ := h3 trivial
 cases q1
 have hc := hv1.one_s (clV_is hs)
 refine ⟨v1, ext, h1, hc, fun i hi => q2 i ?_⟩
 rw [hc.idsA]; exact hi
theorem with104 {h v cv l} {x : Int} (H : Co1 h v cv) (hs : IsS 1 cv (ints l)) (hi : Inc l) (hl : l.length < 100000) :
  Ct cx o (.fn 104 [v, .p (.int .i64 x)]) h (fun e h1 => (∃ ext, h1 = h ++ ext) ∧ CoE h1 e (.val (withV cv l x))) := by
 refine ct104 (ho _ _ _ (by decide) (by decide)) rfl ?_
 by_cases hx : x ∈ l
 ·simp only [sc104, sc104r0, sc104r1, sc104r2, sc104r3, ↓rwS, rwT, rwG, Nat.reduceEqDiff, Nat.reduceAdd, reduceCtorEq, Nat.reduceLT, call107 ho H hs hi (by omega), extractW, aget_eq', List.getElem?_cons_zero, List.getElem?_cons_succ, hx, decide_true]
  refine ⟨⟨[], by simp⟩, .val (.one ?_)⟩
  unfold withV; rw [if_pos hx]; exact H
 ·obtain ⟨v1, ext1, hc1, hv1, hf1⟩ := clone_cs ho hI H hs (by omega)
  have hb := build1 (c := cx) (h := h ++ ext1) (v := .int .i64 x) u39 s3 a3 z3 rfl rfl rfl
  have hn0 : hget ((h ++ ext1) ++ [.row 3 1 [.int .i64 x] true 0]) (h ++ ext1).length = .row 3 1 [.int .i64 x] true 0 := hget_new _ _
  have hw : Co1 ((h ++ ext1) ++ [.row 3 1 [.int .i64 x] true 0]) (.sl (h ++ ext1).length 0 1 0 1) (.own 3 1 [.int .i64 x]) := .own (xs := [.int .i64 x]) hn0
  have hlt := ids1_lt hv1
  have hcv : clV 3 1 cv (ints l) = .pv .nils ∧ l = [] ∨ clV 3 1 cv (ints l) = .own 3 1 (ints l) := by
   unfold clV
   cases hnil : cv.isNil with
   | false => exact .inr rfl
   | true =>
    refine .inl ⟨rfl, ?_⟩
    generalize hxs : ints l = xs at hs
    cases hs with
    | nil => unfold ints at hxs; exact List.map_eq_nil_iff.1 hxs
    | vec => cases hnil
    | own => cases hnil
  have hnd : ([v1, .p (.int .i64 (lbn l x : Nat)), .sl (h ++ ext1).length 0 1 0 1].flatMap idsA).Nodup := by
   have : [v1, AV.p (.int .i64 (lbn l x : Nat)), .sl (h ++ ext1).length 0 1 0 1].flatMap idsA = ids1 v1 ++ [(h ++ ext1).length] := by
    rw [List.flatMap_cons, hv1.idsA]; rfl
   rw [this, List.nodup_append]
   refine ⟨?_, by simp, fun a ha b hb => ?_⟩
   ·cases v1 <;> first | exact List.nodup_nil | (show [_].Nodup; simp)
   ·have := hlt a ha
    rw [List.mem_singleton.1 hb]; omega
  have hlb : lbn l x ≤ l.length := List.countP_le_length
  obtain ⟨e2, h3, hc2, hlen, he2, hfl, hfr⟩ := cs_mut (c := cx) (o := o) (f := 144) (h := (h ++ ext1) ++ [.row 3 1 [.int .i64 x] true 0]) («as» := [v1, .p (.int .i64 (lbn l x : Nat)), .sl (h ++ ext1).length 0 1 0 1])
   (ps := [clV 3 1 cv (ints l), .pv (.int .i64 (lbn l x : Nat)), .own 3 1 [.int .i64 x]]) (qe := .val (.own 3 1 (ints (insL l (lbn l x) x))))
   (.cons (.one (hv1.ext _)) (.cons (.one (.p _)) (.cons (.one hw) .nil))) hnd (fun e qs q => by cases q) (fun h0 as0 hf0 H0 hnd0 => by
    obtain ⟨a, b, c, rfl, ha, hb, hc⟩ := l2_3 H0
    have hb' := hb.pv_int
    subst hb'
    have ha1 := ha.one_s (clV_is hs)
    have hc1 := hc.own1
    have hnd1 : (ids1 a ++ ids1 c).Nodup := by
     have : [a, AV.p (.int .i64 (lbn l x : Nat)), c].flatMap idsA = ids1 a ++ ids1 c := by
      rw [List.flatMap_cons, List.flatMap_cons, List.flatMap_cons, ha1.idsA, hc1.idsA]
      show _ ++ ([] ++ (ids1 c ++ [])) = _
      rw [List.nil_append, List.append_nil]
     rw [this] at hnd0; exact hnd0
    obtain ⟨e, h', hr, q1, q2, q3⟩ := ct_ins hI hcv ha1 hc1 hnd1 hlb (by omega)
    exact ⟨e, h', hr, q1, fun j hj => q2 j hj (hf0 j hj), q3⟩)
  obtain ⟨v2, rfl, hv2⟩ := he2.val_inv
  simp only [sc104, sc104r0, sc104r1, sc104r2, sc104r4, ↓rwS, rwT, rwG, Nat.reduceEqDiff, Nat.reduceAdd, reduceCtorEq, Nat.reduceLT, call107 ho H hs hi (by omega), extractW, aget_eq', List.getElem?_cons_zero, List.getElem?_cons_succ, hx, decide_false, callW_ret ext103 hc1, hb, callW_ret ext144 hc2]
  refine ⟨ext_of ?_ fun i hi => ?_, .val ?_⟩
  ·rw [List.length_append, List.length_append] at hlen; omega
  ·rw [hfr i (by rw [List.length_append, List.length_append]; omega), hget_app _ _ _ (by rw [List.length_append]; omega), hget_appL _ _ hi]
   intro q
   have : [v1, AV.p (.int .i64 (lbn l x : Nat)), .sl (h ++ ext1).length 0 1 0 1].flatMap idsA = ids1 v1 ++ [(h ++ ext1).length] := by
    rw [List.flatMap_cons, hv1.idsA]; rfl
   rw [this] at q
   rcases List.mem_append.1 q with q | q
   ·have := hf1 i q; omega
   ·rw [List.mem_singleton.1 q, List.length_append] at hi; omega
  ·unfold withV; rw [if_neg hx]; exact hv2
end
theorem hset_hset : ∀ (h : List Ob) (i : Nat) (a b : Ob), hset (hset h i a) i b = hset h i b := by
 intro h
 induction h with
 | nil => intro i a b; cases i <;> rfl
 | cons x l ih =>
  intro i a b
  cases i with
  | zero => rfl
  | succ i => show x :: hset (hset l i a) i b = x :: hset l i b; rw [ih]
def delL (l : List Int) (k : Nat) : List Int := l.take k ++ l.drop (k + 1)
theorem ints_del (l : List Int) (k : Nat) : ints (delL l k) = (ints l).take k ++ (ints l).drop (k + 1) := by
 unfold ints delL
 rw [List.map_append, List.map_take, List.map_drop]
section
variable {o : Orc} (ho : FreeT o)
include ho
theorem del147 {h i g ex l} {k : Nat} (hr : hget h i = .row 3 1 (ints l) ex g) (hk : k < l.length) (hl : l.length < 1000000) :
  Ct cx o (.fn 147 [.sl i g 1 0 l.length, .p (.int .i64 (k : Int)), .p (.int .i64 ((k + 1 : Nat) : Int))]) h (fun e h1 => h.length ≤ h1.length ∧ (∀ j, j < h.length → flat (hget h j) = true → flat (hget h1 j) = true) ∧ CoE h1 e (.val (.pv (.vec 1 (ints (delL l k)))))) := by
 refine ct147 (ho _ _ _ (by decide) (by decide)) rfl ?_
 have hi := hget_flat_lt (h := h) (i := i) (by rw [hr]; rfl)
 have hxl := ints_length l
 generalize hxs : ints l = xs at *
 obtain ⟨n, hn⟩ : ∃ n, l.length = n + 1 := ⟨l.length - 1, by omega⟩
 have hxn : xs.length = n + 1 := by omega
 rw [hn]
 have f1 := sl3_un (c := cx) (i := i) (g := g) (sz := 0) (j1 := .i64) (j2 := .i64) (j3 := .i64) u39 s3 (show k + 1 ≤ n + 1 by omega)
 have f2 : ∀ hh, sliceW cx hh 39 (.sl i g 1 0 (n + 1)) none (some (.p (.int .i64 (k : Int)))) = _ := fun hh => sl_to (sz := 0) u39 s3 (show k ≤ n + 1 by omega)
 have f3 : ∀ hh, sliceW cx hh 39 (.sl i g 1 0 (n + 1)) (some (.p (.int .i64 ((k + 1 : Nat) : Int)))) none = _ := fun hh => sl_from (sz := 0) u39 s3 (show k + 1 ≤ n + 1 by omega) (by omega)
 have hne : ¬((k : Int) = ((k + 1 : Nat) : Int)) := by omega
 obtain ⟨t1, t2⟩ := tail_elems (k := k + 1) hr (by omega)
 rw [hxn] at t1 t2
 have hdl : (xs.drop (k + 1)).length = n - k := by rw [List.length_drop]; omega
 have f4 := app_in (c := cx) (k := k) hr s3 (by decide) t1 t2 (room_le room3 (by rw [hdl]; omega)) (by rw [hdl]; omega)
 rw [hdl, show k + (n - k) = n by omega] at f4
 have hys : ∀ ys : List PV, ys = xs.take k ++ (xs.drop (k + 1) ++ xs.drop n) → ys.length = n + 1 := by
  intro ys e
  rw [e, List.length_append, List.length_append, List.length_take, hdl, List.length_drop]; omega
 generalize hyq : xs.take k ++ (xs.drop (k + 1) ++ xs.drop n) = ys at *
 have hyl := hys ys rfl
 have f5 : lenW cx (hset h i (.row 3 1 ys ex g)) 39 (.sl i g 1 0 n) = _ := len_sl u39
 have f5' : ∀ hh, lenW cx hh 39 (.sl i g 1 0 (n + 1)) = _ := fun hh => len_sl u39
 have hr2 : hget (hset h i (.row 3 1 ys ex g)) i = .row 3 1 ys ex g := by rw [hget_hset _ _ _ _ hi, if_pos rfl]
 have f6 := sl_last (c := cx) (sz := 0) (j := .i64) (j' := .i64) u39 s3 hr2 hyl
 have f7 := clear_last (c := cx) u39 hr2 z3 a3 rfl hyl
 simp only [sc147, sc147r0, sc147r1, sc147r2, sc147r4, sc147d5_x, sc147r5, sc147r6, sc147r7, ↓rwS, rwT, rwG, Nat.reduceEqDiff, Nat.reduceAdd, reduceCtorEq, Nat.reduceLT, ↓rwC, rwD, rwI, Nat.reduceSub, Nat.reduceLeDiff, f5', f1, hne, decide_false, f2, f3, appW_sl u39 u39, f4, f5, f6, f7, hset_hset]
 refine ⟨by rw [hset_length]; exact Nat.le_refl _, fun j hj hf => ?_, .val (.one ?_)⟩
 ·rw [hget_hset _ _ _ _ hi]
  split
  ·rfl
  ·exact hf
 ·refine .sl (xs := ys.take n ++ [.int .i64 0]) ?_ ?_
  ·unfold Ai.rowAt
   rw [hget_hset _ _ _ _ hi, if_pos rfl]
   simp only [Nat.beq_refl, Bool.and_self, cond]
  ·unfold sub?
   rw [Nat.ble_eq_true_of_le (by rw [List.length_append, List.length_take]; simp; omega)]
   simp only [cond, List.drop_zero]
   congr 1
   rw [List.take_append_of_le_length (by rw [List.length_take]; omega), List.take_take, Nat.min_self, ints_del, hxs, ← hyq, ← List.append_assoc,
    List.take_append_of_le_length (by rw [List.length_append, List.length_take, hdl]; omega), List.take_of_length_le (by rw [List.length_append, List.length_take, hdl]; omega)]
def withoutV (cv : CV) (l : List Int) (x : Int) : CV := if x ∈ l then .pv (.vec 1 (ints (delL l (lbn l x)))) else cv
omit ho in
theorem lbn_lt {l : List Int} {x : Int} (hx : x ∈ l) : lbn l x < l.length := by
 unfold lbn
 rcases Nat.lt_or_ge (l.countP fun a => decide (a < x)) l.length with q | q
 ·exact q
 ·have := List.countP_eq_length.1 (Nat.le_antisymm List.countP_le_length q) x hx
  simp at this
theorem without108 (hI : HasIns o) {h v cv l} {x : Int} (H : Co1 h v cv) (hs : IsS 1 cv (ints l)) (hi : Inc l) (hl : l.length < 100000) :
  Ct cx o (.fn 108 [v, .p (.int .i64 x)]) h (fun e h1 => (∃ ext, h1 = h ++ ext) ∧ CoE h1 e (.val (withoutV cv l x))) := by
 refine ct108 (ho _ _ _ (by decide) (by decide)) rfl ?_
 by_cases hx : x ∈ l
 ·obtain ⟨v1, ext1, hc1, hv1, hf1⟩ := clone_cs ho hI H hs (by omega)
  have hlb := lbn_lt hx
  have hcv : clV 3 1 cv (ints l) = .own 3 1 (ints l) := by
   unfold clV
   cases hnil : cv.isNil with
   | false => rfl
   | true =>
    generalize hxs : ints l = xs at hs
    cases hs with
    | nil =>
     have : l = [] := by unfold ints at hxs; exact List.map_eq_nil_iff.1 hxs
     rw [this] at hx; cases hx
    | vec => cases hnil
    | own => cases hnil
  rw [hcv] at hv1
  have hw : IntKind.wrap .i64 ((lbn l x : Int) + 1) = ((lbn l x + 1 : Nat) : Int) := by rw [wrap64_id (by omega) (by omega)]; omega
  have hids : [v1, AV.p (.int .i64 (lbn l x : Nat)), .p (.int .i64 ((lbn l x + 1 : Nat) : Int))].flatMap idsA = ids1 v1 := by
   rw [List.flatMap_cons, hv1.idsA]
   show ids1 v1 ++ [] = _
   rw [List.append_nil]
  obtain ⟨e2, h3, hc2, hlen, he2, hfl, hfr⟩ := cs_mut (c := cx) (o := o) (f := 147) (h := h ++ ext1) («as» := [v1, .p (.int .i64 (lbn l x : Nat)), .p (.int .i64 ((lbn l x + 1 : Nat) : Int))])
   (ps := [.own 3 1 (ints l), .pv (.int .i64 (lbn l x : Nat)), .pv (.int .i64 ((lbn l x + 1 : Nat) : Int))]) (qe := .val (.pv (.vec 1 (ints (delL l (lbn l x))))))
   (.cons (.one hv1) (.cons (.one (.p _)) (.cons (.one (.p _)) .nil))) (by
    rw [hids]
    cases hv1 with
    | own => show [_].Nodup; simp) (fun e qs q => by cases q) (fun h0 as0 hf0 H0 hnd0 => by
    obtain ⟨a, b, c, rfl, ha, hb, hc⟩ := l2_3 H0
    have hb' := hb.pv_int
    have hc' := hc.pv_int
    subst hb'; subst hc'
    have ha1 := ha.own1
    generalize hxs : ints l = xs at ha1
    cases ha1 with
    | own hr =>
     subst hxs
     rw [ints_length]
     obtain ⟨e, h', hr, q1, q2, q3⟩ := del147 ho hr hlb (by omega)
     exact ⟨e, h', hr, q1, fun j hj => q2 j hj (hf0 j hj), q3⟩)
  obtain ⟨v2, rfl, hv2⟩ := he2.val_inv
  simp only [sc108, sc108r0, sc108r1, sc108r2, sc108r4, ↓rwS, rwT, rwG, Nat.reduceEqDiff, Nat.reduceAdd, reduceCtorEq, Nat.reduceLT, call107 ho H hs hi (by omega), extractW, aget_eq', List.getElem?_cons_zero, List.getElem?_cons_succ, hx, decide_true, callW_ret ext103 hc1, hw, callW_ret ext147 hc2]
  refine ⟨ext_of ?_ fun i hi => ?_, .val ?_⟩
  ·rw [List.length_append] at hlen; omega
  ·rw [hfr i (by rw [List.length_append]; omega), hget_appL _ _ hi]
   rw [hids]
   intro q
   have := hf1 i q; omega
  ·unfold withoutV; rw [if_pos hx]; exact hv2
 ·simp only [sc108, sc108r0, sc108r1, sc108r2, sc108r3, ↓rwS, rwT, rwG, Nat.reduceEqDiff, Nat.reduceAdd, reduceCtorEq, Nat.reduceLT, call107 ho H hs hi (by omega), extractW, aget_eq', List.getElem?_cons_zero, List.getElem?_cons_succ, hx, decide_false]
  refine ⟨⟨[], by simp⟩, .val (.one ?_)⟩
  unfold withoutV; rw [if_neg hx]; exact H
end
end Go.Proofs

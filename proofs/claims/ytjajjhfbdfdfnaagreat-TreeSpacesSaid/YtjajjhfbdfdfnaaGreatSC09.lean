/- What is proved: contracts of New, of what is equal, of what is small. Conditions: as before. -/
import Derived.Test.YtjajjhfbdfdfnaaGreatSC08
set_option linter.all false
set_option maxRecDepth 100000
namespace Go.Ai
theorem opD_max {c : Ctx} {t : Tm} {h : List Ob} {x y tys} : opD (.call { callee := .builtin .max, args := #[x, y], argTypes := tys }) c t h = mm true (ev c t x) (ev c t y) := (rfl)
theorem opD_min {c : Ctx} {t : Tm} {h : List Ob} {x y tys} : opD (.call { callee := .builtin .min, args := #[x, y], argTypes := tys }) c t h = mm false (ev c t x) (ev c t y) := (rfl)
theorem mm_max (a b : Int) : mm true (.p (.int .i64 a)) (.p (.int .i64 b)) = .w (.p (.int .i64 (max a b))) := by
 have e : mm true (.p (.int .i64 a)) (.p (.int .i64 b)) = .w (.p (.int .i64 (cond (ltI a b) b a))) := rfl
 rw [e, ltI_eq]
 by_cases h : a < b
 ·rw [decide_eq_true h]; simp only [cond]; congr 3; omega
 ·rw [decide_eq_false h]; simp only [cond]; congr 3; omega
theorem mm_min (a b : Int) : mm false (.p (.int .i64 a)) (.p (.int .i64 b)) = .w (.p (.int .i64 (min a b))) := by
 have e : mm false (.p (.int .i64 a)) (.p (.int .i64 b)) = .w (.p (.int .i64 (cond (ltI b a) b a))) := rfl
 rw [e, ltI_eq]
 by_cases h : b < a
 ·rw [decide_eq_true h]; simp only [cond]; congr 3; omega
 ·rw [decide_eq_false h]; simp only [cond]; congr 3; omega
end Go.Ai
namespace Go.Proofs
open Go Go.Ai
theorem b41n (i g n : Nat) : build? cx 41 [(0, .sl i g 10 0 n), (4, .p (.int .i64 1)), (5, .p (.int .i64 1))] = some (.agg [.sl i g 10 0 n, .p .nils, .p .nils, .p .nils, .p (.int .i64 1), .p (.int .i64 1)]) := by kernel_rfl
theorem make_pages {h : List Ob} {n : Nat} (hn : n < 1000000) : makeSlice? cx h 38 (.p (.int .i64 (n : Int))) (.p (.int .i64 (n : Int))) = .wn (.sl h.length 0 10 0 n) (.row 79 10 (List.replicate n zeroPage) true 0) := by
 obtain ⟨i, hi, hs, hb1, hb2⟩ : ∃ i, cx.info 79 = some i ∧ i.size = 10 ∧ 1 ≤ i.bytes ∧ i.bytes ≤ 1000 := by
  cases hq : cx.info 79 with
  | none =>
   have : (cx.info 79).isSome = true := by kernel_rfl
   rw [hq] at this; cases this
  | some i =>
   have h1 : (cx.info 79).map (fun i => (i.size, Nat.ble 1 i.bytes, Nat.ble i.bytes 1000)) = some (10, true, true) := by kernel_rfl
   rw [hq] at h1
   have : (i.size, Nat.ble 1 i.bytes, Nat.ble i.bytes 1000) = (10, true, true) := Option.some.inj h1
   have h2 := Prod.mk.inj this
   have h3 := Prod.mk.inj h2.2
   exact ⟨i, rfl, h2.1, Nat.le_of_ble_eq_true h3.1, Nat.le_of_ble_eq_true h3.2⟩
 unfold makeSlice?
 simp only [u38]
 unfold onII onI
 simp only [hi, z79, a79]
 have hm : ¬(140737488355328 < Int.mul i.bytes (n : Int)) := by
  show ¬(140737488355328 < ((i.bytes : Nat) : Int) * (n : Int))
  have : i.bytes * n ≤ 1000 * n := Nat.mul_le_mul_right n hb2
  have h2 : ((i.bytes * n : Nat) : Int) ≤ ((1000 * n : Nat) : Int) := by omega
  rw [Int.natCast_mul] at h2
  omega
 have : (!ltI (n : Int) 0 && !ltI (n : Int) (n : Int) && !ltI 140737488355328 (Int.mul i.bytes (n : Int)) && Nat.ble 1 i.bytes && Nat.ble 1 i.size && fitsA true i.size (.agg [.int .i64 0, .int .i64 0, .int .i64 0, .int .i64 0, .int .i64 0, .bool false, .nils, .int .i64 0, .str [], .nils])) = true := by
  rw [hs]
  simp only [ltI_eq]
  rw [decide_eq_false (show ¬((n : Int) < 0) by omega), decide_eq_false (show ¬((n : Int) < (n : Int)) by omega), decide_eq_false hm, Nat.ble_eq_true_of_le hb1]
  rfl
 rw [this]
 simp only [cond, hs]
 unfold Ai.newRow
 simp only [forceN_eq, lnf_eq, Int.toNat_natCast]
 rfl
def nums (k : Nat) : List Int := (List.range k).map fun (j : Nat) => ((j + 2 : Nat) : Int)
theorem nums_succ (k : Nat) : nums (k + 1) = nums k ++ [((k + 2 : Nat) : Int)] := by unfold nums; rw [List.range_succ, List.map_append]; rfl
theorem nums_len (k : Nat) : (nums k).length = k := by unfold nums; simp
def newC (n : Nat) : CV := .agg [.own 79 10 (List.replicate n zeroPage), accV (nums (n - 2)), .pv .nils, .pv .nils, .pv (.int .i64 1), .pv (.int .i64 1)]
def newH (n : Nat) (b : AV) : List Ob := [.cells 41 [.p .nils, .p .nils, .p .nils, .p .nils, .p (.int .i64 0), .p (.int .i64 0)], .row 79 10 (List.replicate n zeroPage) true 0, .cells 41 [.sl 1 0 10 0 n, b, .p .nils, .p .nils, .p (.int .i64 1), .p (.int .i64 1)]]
theorem newH_len (n b) : (newH n b).length = 3 := rfl
theorem AccI.step {n : Nat} {h' : List Ob} {b b1 : AV} {h1 : List Ob} {l : List Int} {x : Int} (_ : AccI (newH n b) h' b l) (A1 : AccI (newH n b) h1 b1 (l ++ [x])) :
  AccI (newH n b1) (hset h1 2 (.cells 41 [.sl 1 0 10 0 n, b1, .p .nils, .p .nils, .p (.int .i64 1), .p (.int .i64 1)])) b1 (l ++ [x]) := by
 have hl := A1.len
 rw [newH_len] at hl
 refine ⟨by rw [hset_length, newH_len]; exact hl, fun j hj => ?_, ?_, fun q => by simp at q, fun j hj => by have := A1.new j hj; exact this⟩
 ·rw [newH_len] at hj
  rw [hget_hset _ _ _ _ (by omega)]
  by_cases q : j = 2
  ·subst q; rw [if_pos rfl]; rfl
  ·rw [if_neg q, A1.keep j (by rw [newH_len]; exact hj)]
   rcases (by omega : j = 0 ∨ j = 1) with rfl | rfl <;> rfl
 ·have ho := A1.own
  generalize hx : ints (l ++ [x]) = xs at ho
  cases ho with
  | nil => exact .nil
  | row hr =>
   have hni := A1.new _ (List.mem_singleton.2 rfl)
   rw [newH_len] at hni
   exact .row (by rw [hget_hset _ _ _ _ (by omega), if_neg (by omega)]; exact hr)
theorem AccI.fin {n : Nat} {h' : List Ob} {b : AV} {l : List Int} (A : AccI (newH n b) h' b l) :
  (load? cx h' 41 (.ptr 2 0) = some (.agg [.sl 1 0 10 0 n, b, .p .nils, .p .nils, .p (.int .i64 1), .p (.int .i64 1)])) ∧
  (store? cx h' 41 (.ptr 0 0) (.agg [.sl 1 0 10 0 n, b, .p .nils, .p .nils, .p (.int .i64 1), .p (.int .i64 1)]) = .ws undefA 0 (.cells 41 [.sl 1 0 10 0 n, b, .p .nils, .p .nils, .p (.int .i64 1), .p (.int .i64 1)])) ∧
  (load? cx (hset h' 0 (.cells 41 [.sl 1 0 10 0 n, b, .p .nils, .p .nils, .p (.int .i64 1), .p (.int .i64 1)])) 41 (.ptr 0 0) = some (.agg [.sl 1 0 10 0 n, b, .p .nils, .p .nils, .p (.int .i64 1), .p (.int .i64 1)])) ∧
  Co (hset h' 0 (.cells 41 [.sl 1 0 10 0 n, b, .p .nils, .p .nils, .p (.int .i64 1), .p (.int .i64 1)])) (.agg [.sl 1 0 10 0 n, b, .p .nils, .p .nils, .p (.int .i64 1), .p (.int .i64 1)]) (.agg [.own 79 10 (List.replicate n zeroPage), accV l, .pv .nils, .pv .nils, .pv (.int .i64 1), .pv (.int .i64 1)]) := by
 have hl := A.len
 rw [newH_len] at hl
 have y0 : hget h' 0 = .cells 41 [.p .nils, .p .nils, .p .nils, .p .nils, .p (.int .i64 0), .p (.int .i64 0)] := A.keep 0 (by rw [newH_len]; decide)
 have y1 : hget h' 1 = .row 79 10 (List.replicate n zeroPage) true 0 := A.keep 1 (by rw [newH_len]; decide)
 have y2 : hget h' 2 = .cells 41 [.sl 1 0 10 0 n, b, .p .nils, .p .nils, .p (.int .i64 1), .p (.int .i64 1)] := A.keep 2 (by rw [newH_len]; decide)
 have nf : flat (hget h' 0) = false := by rw [y0]; rfl
 refine ⟨(load_whole a41 s41 y2 rfl).trans rfl, store_whole s41 y0 rfl rfl rfl, ?_, .agg (.cons ?_ (.cons (A.co.hset nf) (.cons (.p _) (.cons (.p _) (.cons (.p _) (.cons (.p _) .nil))))))⟩
 ·rw [load_whole (n := 6) a41 s41 (by rw [hget_hset _ _ _ _ (by omega), if_pos rfl]) rfl]; rfl
 ·have := Co1.own y1
  rw [List.length_replicate] at this
  exact this.hset nf
section
variable {o : Orc} (ho : FreeT o)
include ho
theorem new21 (p : Int) : Ct cx o (.fn 21 [.p (.int .i64 p)]) [] (fun e h1 => CoE h1 e (.val (newC (min (max p 2) 4096).toNat))) := by
 obtain ⟨n, hn⟩ : ∃ n : Nat, min (max p 2) 4096 = (n : Int) := ⟨(min (max p 2) 4096).toNat, by omega⟩
 have hn2 : 2 ≤ n := by omega
 have hn4 : n ≤ 4096 := by omega
 rw [hn, Int.toNat_natCast]
 refine ct21 (ho _ _ _ (by decide) (by decide)) rfl ?_
 have zc : zeroSpace.cells.map AV.p = [.p .nils, .p .nils, .p .nils, .p .nils, .p (.int .i64 0), .p (.int .i64 0)] := rfl
 have mk : ∀ hh : List Ob, makeSlice? cx hh 38 (.p (.int .i64 (n : Int))) (.p (.int .i64 (n : Int))) = _ := fun hh => make_pages (by omega)
 have st0 := store_whole (c := cx) (h := [.cells 41 [.p .nils, .p .nils, .p .nils, .p .nils, .p (.int .i64 0), .p (.int .i64 0)], .row 79 10 (List.replicate n zeroPage) true 0, .cells 41 [.p .nils, .p .nils, .p .nils, .p .nils, .p (.int .i64 0), .p (.int .i64 0)]]) (i := 2) (ty := 41) (v := .agg [.sl 1 0 10 0 n, .p .nils, .p .nils, .p .nils, .p (.int .i64 1), .p (.int .i64 1)]) s41 rfl rfl rfl rfl
 have hs0 : hset [.cells 41 [.p .nils, .p .nils, .p .nils, .p .nils, .p (.int .i64 0), .p (.int .i64 0)], .row 79 10 (List.replicate n zeroPage) true 0, .cells 41 [.p .nils, .p .nils, .p .nils, .p .nils, .p (.int .i64 0), .p (.int .i64 0)]] 2 (.cells 41 [.sl 1 0 10 0 n, .p .nils, .p .nils, .p .nils, .p (.int .i64 1), .p (.int .i64 1)]) = newH n (.p .nils) := rfl
 simp only [sc21r0, sc21r1, sc21r2, sc21r3, sc21r4, sc21r5, sc21r7, sc21, ↓rwS, rwT, rwG, Nat.reduceEqDiff, Nat.reduceAdd, reduceCtorEq, Nat.reduceLT, opD_max, opD_min, mm_max, mm_min, hn, z41, zc, mk, b41n, List.cons_append, List.nil_append, List.length_cons, List.length_nil, st0, hs0]
 refine xC_loop (fun m t h' d r => ∃ (k : Nat) (b : AV), m = n - 2 - k ∧ k ≤ n - 2 ∧ d = [] ∧ r = none ∧ t.get 2 = .ptr 0 0 ∧ t.get 3 = .ptr 2 0 ∧ t.get 4 = .p (.int .i64 ((k + 2 : Nat) : Int)) ∧ AccI (newH n b) h' b (nums k)) (n - 2) ?_ ?_
 ·refine ⟨0, .p .nils, rfl, by omega, rfl, rfl, ?_⟩
  simp only [↓rwA, rwB, rwG, Nat.reduceEqDiff, Nat.reduceAdd, reduceCtorEq, Nat.reduceLT, true_and]
  exact ⟨rfl, AccI.start _⟩
 ·rintro m t h' d r ⟨k, b, rfl, hk, rfl, rfl, t2, t3, t4, A⟩
  have hl := A.len
  rw [newH_len] at hl
  have y1 : hget h' 1 = .row 79 10 (List.replicate n zeroPage) true 0 := A.keep 1 (by rw [newH_len]; decide)
  have y2 : hget h' 2 = .cells 41 [.sl 1 0 10 0 n, b, .p .nils, .p .nils, .p (.int .i64 1), .p (.int .i64 1)] := A.keep 2 (by rw [newH_len]; decide)
  have d0 : load? cx h' 38 (.ptr 2 0) = some (.sl 1 0 10 0 n) := load_one a38 y2 rfl
  have d1 : load? cx h' 39 (.ptr 2 1) = some b := load_one a39 y2 rfl
  have e0 : lenW cx h' 38 (.sl 1 0 10 0 n) = .w (.p (.int .i64 (n : Int))) := len_sl u38
  by_cases hlt : ((k + 2 : Nat) : Int) < (n : Int)
  ·obtain ⟨b1, h1, A1, q1, q2⟩ := A.app (o := o) (x := ((k + 2 : Nat) : Int)) (by rw [nums_len]; omega)
   have w1 := one64 (show k + 2 < 4611686018427387904 by omega)
   have z2 : hget h1 2 = .cells 41 [.sl 1 0 10 0 n, b, .p .nils, .p .nils, .p (.int .i64 1), .p (.int .i64 1)] := A1.keep 2 (by rw [newH_len]; decide)
   have ob : b1.cells? = some [b1] := by
    have := A1.co.one_cell (accV_is _); exact this
   have st := store_cell (c := cx) (off := 1) s39 z2 ob (show 1 < 6 by decide)
   have A2 := A.step A1
   have dd1 : load? cx (h' ++ [.row 3 1 [.int .i64 ((k + 2 : Nat) : Int)] true 0]) 39 (.ptr 2 1) = some b := load_one a39 ((hget_appL _ 2 (by omega)).trans y2) rfl
   simp only [sc21r0, sc21r1, sc21r2, sc21r3, sc21r4, sc21r5, sc21l6, sc21r7, sc21, ↓rwS, rwT, rwG, Nat.reduceEqDiff, Nat.reduceAdd, reduceCtorEq, Nat.reduceLT, t2, t3, t4, fa0, fa1, d0, d1, dd1, e0, hlt, decide_true, q1, appW_sl u39 u39, q2, st, w1]
   refine ⟨_, ?_, k + 1, b1, rfl, by omega, ?_⟩
   ·omega
   ·simp only [↓rwA, rwB, rwG, Nat.reduceEqDiff, Nat.reduceAdd, reduceCtorEq, Nat.reduceLT, true_and]
    rw [nums_succ]
    exact A2
  ·have hk2 : k = n - 2 := by omega
   obtain ⟨p1, p2, p3, p4⟩ := A.fin
   simp only [sc21r0, sc21r1, sc21r2, sc21r3, sc21r4, sc21r5, sc21l6, sc21r7, sc21, ↓rwS, rwT, rwG, Nat.reduceEqDiff, Nat.reduceAdd, reduceCtorEq, Nat.reduceLT, t2, t3, t4, fa0, fa1, d0, e0, hlt, decide_false, p1, p2, p3]
   rw [hk2] at p4
   exact .val p4
theorem new22 (p : Int) : Ct cx o (.fn 22 [.p (.int .i64 p)]) [] (fun e h1 => CoE h1 e (.val (newC (max 2 (min p 4096)).toNat))) := by
 obtain ⟨n, hn⟩ : ∃ n : Nat, max 2 (min p 4096) = (n : Int) := ⟨(max 2 (min p 4096)).toNat, by omega⟩
 have hn2 : 2 ≤ n := by omega
 have hn4 : n ≤ 4096 := by omega
 rw [hn, Int.toNat_natCast]
 refine ct22 (ho _ _ _ (by decide) (by decide)) rfl ?_
 have zc : zeroSpace.cells.map AV.p = [.p .nils, .p .nils, .p .nils, .p .nils, .p (.int .i64 0), .p (.int .i64 0)] := rfl
 have mk : ∀ hh : List Ob, makeSlice? cx hh 38 (.p (.int .i64 (n : Int))) (.p (.int .i64 (n : Int))) = _ := fun hh => make_pages (by omega)
 have st0 := store_whole (c := cx) (h := [.cells 41 [.p .nils, .p .nils, .p .nils, .p .nils, .p (.int .i64 0), .p (.int .i64 0)], .row 79 10 (List.replicate n zeroPage) true 0, .cells 41 [.p .nils, .p .nils, .p .nils, .p .nils, .p (.int .i64 0), .p (.int .i64 0)]]) (i := 2) (ty := 41) (v := .agg [.sl 1 0 10 0 n, .p .nils, .p .nils, .p .nils, .p (.int .i64 1), .p (.int .i64 1)]) s41 rfl rfl rfl rfl
 have hs0 : hset [.cells 41 [.p .nils, .p .nils, .p .nils, .p .nils, .p (.int .i64 0), .p (.int .i64 0)], .row 79 10 (List.replicate n zeroPage) true 0, .cells 41 [.p .nils, .p .nils, .p .nils, .p .nils, .p (.int .i64 0), .p (.int .i64 0)]] 2 (.cells 41 [.sl 1 0 10 0 n, .p .nils, .p .nils, .p .nils, .p (.int .i64 1), .p (.int .i64 1)]) = newH n (.p .nils) := rfl
 simp only [sc22r0, sc22r1, sc22r2, sc22r3, sc22r4, sc22r5, sc22r6, sc22r8, sc22, ↓rwS, rwT, rwG, Nat.reduceEqDiff, Nat.reduceAdd, reduceCtorEq, Nat.reduceLT, opD_max, opD_min, mm_max, mm_min, hn, z41, zc, mk, b41n, List.cons_append, List.nil_append, List.length_cons, List.length_nil, st0, hs0]
 refine xC_loop (fun m t h' d r => ∃ (k : Nat) (b : AV), m = n - 2 - k ∧ k ≤ n - 2 ∧ d = [] ∧ r = none ∧ t.get 2 = .ptr 0 0 ∧ t.get 3 = .p (.int .i64 (n : Int)) ∧ t.get 4 = .ptr 2 0 ∧ t.get 5 = .p (.int .i64 ((k + 2 : Nat) : Int)) ∧ AccI (newH n b) h' b (nums k)) (n - 2) ?_ ?_
 ·refine ⟨0, .p .nils, rfl, by omega, rfl, rfl, ?_⟩
  simp only [↓rwA, rwB, rwG, Nat.reduceEqDiff, Nat.reduceAdd, reduceCtorEq, Nat.reduceLT, true_and]
  exact ⟨rfl, AccI.start _⟩
 ·rintro m t h' d r ⟨k, b, rfl, hk, rfl, rfl, t2, t3, t4, t5, A⟩
  have hl := A.len
  rw [newH_len] at hl
  have y1 : hget h' 1 = .row 79 10 (List.replicate n zeroPage) true 0 := A.keep 1 (by rw [newH_len]; decide)
  have y2 : hget h' 2 = .cells 41 [.sl 1 0 10 0 n, b, .p .nils, .p .nils, .p (.int .i64 1), .p (.int .i64 1)] := A.keep 2 (by rw [newH_len]; decide)
  have d0 : load? cx h' 38 (.ptr 2 0) = some (.sl 1 0 10 0 n) := load_one a38 y2 rfl
  have d1 : load? cx h' 39 (.ptr 2 1) = some b := load_one a39 y2 rfl
  have e0 : lenW cx h' 38 (.sl 1 0 10 0 n) = .w (.p (.int .i64 (n : Int))) := len_sl u38
  by_cases hlt : ((k + 2 : Nat) : Int) < (n : Int)
  ·obtain ⟨b1, h1, A1, q1, q2⟩ := A.app (o := o) (x := ((k + 2 : Nat) : Int)) (by rw [nums_len]; omega)
   have w1 := one64 (show k + 2 < 4611686018427387904 by omega)
   have z2 : hget h1 2 = .cells 41 [.sl 1 0 10 0 n, b, .p .nils, .p .nils, .p (.int .i64 1), .p (.int .i64 1)] := A1.keep 2 (by rw [newH_len]; decide)
   have ob : b1.cells? = some [b1] := by
    have := A1.co.one_cell (accV_is _); exact this
   have st := store_cell (c := cx) (off := 1) s39 z2 ob (show 1 < 6 by decide)
   have A2 := A.step A1
   have dd1 : load? cx (h' ++ [.row 3 1 [.int .i64 ((k + 2 : Nat) : Int)] true 0]) 39 (.ptr 2 1) = some b := load_one a39 ((hget_appL _ 2 (by omega)).trans y2) rfl
   simp only [sc22r0, sc22r1, sc22r2, sc22r3, sc22r4, sc22r5, sc22r6, sc22l7, sc22r8, sc22, ↓rwS, rwT, rwG, Nat.reduceEqDiff, Nat.reduceAdd, reduceCtorEq, Nat.reduceLT, t2, t3, t4, t5, fa0, fa1, d0, d1, dd1, e0, hlt, decide_true, q1, appW_sl u39 u39, q2, st, w1]
   refine ⟨_, ?_, k + 1, b1, rfl, by omega, ?_⟩
   ·omega
   ·simp only [↓rwA, rwB, rwG, Nat.reduceEqDiff, Nat.reduceAdd, reduceCtorEq, Nat.reduceLT, true_and]
    rw [nums_succ]
    exact A2
  ·have hk2 : k = n - 2 := by omega
   obtain ⟨p1, p2, p3, p4⟩ := A.fin
   simp only [sc22r0, sc22r1, sc22r2, sc22r3, sc22r4, sc22r5, sc22r6, sc22l7, sc22r8, sc22, ↓rwS, rwT, rwG, Nat.reduceEqDiff, Nat.reduceAdd, reduceCtorEq, Nat.reduceLT, t2, t3, t4, t5, fa0, fa1, d0, e0, hlt, decide_false, p1, p2, p3]
   rw [hk2] at p4
   exact .val p4
end
end Go.Proofs
namespace Go.Ai
open Go
mutual
noncomputable def okT (c : Ctx) : Nat → TypeId → PV → Bool
 | 0, _, _ => false
 | k + 1, t, x => (match c.under t with
  | some .bool => (match x with | .bool _ => true | _ => false)
  | some (.int _) => (match x with | .int _ _ => true | _ => false)
  | some .string => (match x with | .str _ => true | _ => false)
  | some (.struct fs) => (match x with | .agg a => cond (c.plain t) (okFs c k fs.toList a) false | _ => false)
  | some (.array n e) => (match x, sizeOf? c e with | .agg a, some sz => okEs c k e sz a n 0 | _, _ => false)
  | _ => false)
noncomputable def okFs (c : Ctx) : Nat → List Field → List PV → Bool
 | 0, _, _ => false
 | _ + 1, [], _ => true
 | k + 1, f :: fs, a => cond (f.name == "_") false (match part? c f.type a f.offset with
  | some x => cond (okT c k f.type x) (okFs c k fs a) false
  | _ => false)
noncomputable def okEs (c : Ctx) : Nat → TypeId → Nat → List PV → Nat → Nat → Bool
 | 0, _, _, _, _, _ => false
 | _ + 1, _, _, _, 0, _ => true
 | k + 1, e, sz, a, n + 1, i => (match part? c e a (i * sz) with
  | some x => cond (okT c k e x) (okEs c k e sz a n (i + 1)) false
  | _ => false)
end
theorem eq_refl (c : Ctx) : ∀ k, (∀ t x, okT c k t x = true → eqT c k t x x = some true) ∧ (∀ fs a, okFs c k fs a = true → eqFs c k fs a a = some true) ∧ (∀ e sz a n i, okEs c k e sz a n i = true → eqEs c k e sz a a n i = some true) := by
 intro k
 induction k with
 | zero => refine ⟨fun t x h => ?_, fun fs a h => ?_, fun e sz a n i h => ?_⟩ <;> (first | (unfold okT at h; cases h) | (unfold okFs at h; cases h) | (unfold okEs at h; cases h))
 | succ k ih =>
  obtain ⟨i1, i2, i3⟩ := ih
  refine ⟨fun t x h => ?_, fun fs a h => ?_, fun e sz a n i h => ?_⟩
  ·unfold okT at h
   unfold eqT
   cases hu : c.under t with
   | none => rw [hu] at h; cases h
   | some ty =>
    rw [hu] at h
    cases ty with
    | bool => cases x <;> first | (cases h; done) | (simp)
    | int kk => cases x <;> first | (cases h; done) | (simp [eqI_eq])
    | string => cases x <;> first | (cases h; done) | (simp [beqBytes_eq])
    | struct fs =>
     cases x with
     | agg a =>
      simp only at h ⊢
      cases hp : c.plain t with
      | false => rw [hp] at h; cases h
      | true => rw [hp] at h; exact i2 _ _ h
     | _ => cases h
    | array n e =>
     cases x with
     | agg a =>
      simp only at h ⊢
      cases hs : sizeOf? c e with
      | none => rw [hs] at h; cases h
      | some sz => rw [hs] at h; exact i3 _ _ _ _ _ h
     | _ => cases h
    | _ => cases h
  ·cases fs with
   | nil => unfold eqFs; rfl
   | cons f fs =>
    unfold okFs at h
    unfold eqFs
    cases hn : f.name == "_" with
    | true => rw [hn] at h; cases h
    | false =>
     rw [hn] at h
     simp only [cond] at h ⊢
     cases hp : part? c f.type a f.offset with
     | none => rw [hp] at h; cases h
     | some x =>
      rw [hp] at h
      simp only at h ⊢
      cases ht : okT c k f.type x with
      | false => rw [ht] at h; cases h
      | true =>
       rw [ht] at h
       rw [i1 _ _ ht]
       exact i2 _ _ h
  ·cases n with
   | zero => unfold eqEs; rfl
   | succ n =>
    unfold okEs at h
    unfold eqEs
    cases hp : part? c e a (i * sz) with
    | none => rw [hp] at h; cases h
    | some x =>
     rw [hp] at h
     simp only at h ⊢
     cases ht : okT c k e x with
     | false => rw [ht] at h; cases h
     | true =>
      rw [ht] at h
      rw [i1 _ _ ht]
      exact i3 _ _ _ _ _ h
def isStructT (c : Ctx) (t : TypeId) : Bool := match c.under t with | some (.struct _) => true | _ => false
theorem agg_eq? {c : Ctx} {ty : TypeId} {q : Bool} {a : List PV} (hs : isStructT c ty = true) (hp : c.plain ty = true) (he : eqT c 60 ty (.agg a) (.agg a) = some true) : eq? c ty q (.p (.agg a)) (.p (.agg a)) = some true := by
 unfold isStructT at hs
 unfold eq?
 cases hu : c.under ty with
 | none => rw [hu] at hs; cases hs
 | some t =>
  rw [hu] at hs
  cases t with
  | struct fs =>
   show cond (c.plain ty) (eqT c 60 ty (.agg a) (.agg a)) none = _
   rw [hp, he]; rfl
  | _ => cases hs
theorem agg_neq {c : Ctx} {ty : TypeId} {q : Bool} {a : List PV} (hs : isStructT c ty = true) (hp : c.plain ty = true) (he : eqT c 60 ty (.agg a) (.agg a) = some true) : bin3 .neq c ty q (.p (.agg a)) (.p (.agg a)) = .w (.p (.bool false)) := by
 show (match eq? c ty q (.p (.agg a)) (.p (.agg a)) with | some b => resB (!b) | none => .no) = _
 rw [agg_eq? hs hp he]; rfl
theorem agg_eql {c : Ctx} {ty : TypeId} {q : Bool} {a : List PV} (hs : isStructT c ty = true) (hp : c.plain ty = true) (he : eqT c 60 ty (.agg a) (.agg a) = some true) : bin3 .eql c ty q (.p (.agg a)) (.p (.agg a)) = .w (.p (.bool true)) := by
 show (match eq? c ty q (.p (.agg a)) (.p (.agg a)) with | some b => resB b | none => .no) = _
 rw [agg_eq? hs hp he]; rfl
end Go.Ai
namespace Go.Proofs
open Go Go.Ai
theorem one63 {i : Nat} (h : i + 1 < 9223372036854775808) : IntKind.wrap .i64 ((i : Int) + 1) = ((i + 1 : Nat) : Int) := by
 rw [wrap64_id (by omega) (by omega)]; omega
inductive EntOk : PV → Prop
 | mk (k v a b c d d0 d1 d2 d3 d4 d5 d6 d7 d8 d9 e0 e1 e2 e3 e4 e5) : EntOk (.agg [.str k, .str v, .int .i64 a, .int .i64 b, .int .i64 c, .int .i64 d, .int .u8 d0, .int .u8 d1, .int .u8 d2, .int .u8 d3, .int .u8 d4, .int .u8 d5, .int .u8 d6, .int .u8 d7, .int .u8 d8, .int .u8 d9, .int .u8 e0, .int .u8 e1, .int .u8 e2, .int .u8 e3, .int .u8 e4, .int .u8 e5])
theorem pl50 : cx.plain 50 = true := by kernel_rfl
theorem pl48 : cx.plain 48 = true := by kernel_rfl
theorem ent_eq {x : PV} (H : EntOk x) : eqT cx 60 50 x x = some true := by
 refine (eq_refl cx 60).1 50 x ?_
 cases H with
 | mk => kernel_rfl
theorem st50 : isStructT cx 50 = true := by kernel_rfl
theorem st48 : isStructT cx 48 = true := by kernel_rfl
theorem ent_neq {x : PV} (q : Bool) (H : EntOk x) : bin3 .neq cx 50 q (.p x) (.p x) = .w (.p (.bool false)) := by
 have h1 := ent_eq H
 cases H with
 | mk => exact agg_neq st50 pl50 h1
theorem tree_eql (q : Bool) : bin3 .eql cx 48 q (.p zTree) (.p zTree) = .w (.p (.bool true)) :=
 agg_eql st48 pl48 ((eq_refl cx 60).1 48 zTree (by kernel_rfl))
inductive SlQ (sz : Nat) : PV → List PV → Prop
 | sl {p xs} : SlP sz p xs → SlQ sz p xs
 | emp : SlQ sz (.vec 0 []) []
theorem SlQ.len {sz p xs ty e} (H : SlQ sz p xs) (hu : cx.under ty = some (.slice e)) (h : List Ob) : lenW cx h ty (.p p) = .w (.p (.int .i64 xs.length)) := by
 cases H with
 | sl H => exact (H.sl h).len hu
 | emp => exact len_vec hu
theorem SlQ.eok {sz p xs} (H : SlQ sz p xs) : EOk cx 39 p := by
 cases H with
 | sl H => exact H.eok
 | emp =>
  refine ⟨?_, ?_⟩
  ·unfold loadC; rw [a39]
  ·unfold part?; rw [a39]; rfl
inductive FrdOk : PV → Prop
 | mk (v : Int) (p : PV) (l : List Int) : SlQ 1 p (ints l) → l.length < 9223372036854775808 → FrdOk (.agg [.int .i64 v, p])
inductive PgTy : PV → Prop
 | mk (a0 a1 a2 a3 a4 : Int) (b : Bool) (p : PV) (a7 : Int) (s : List UInt8) (q : PV) (es fs : List PV) : SlQ 22 p es → SlQ 2 q fs → (∀ e ∈ es, EntOk e) → (∀ f ∈ fs, FrdOk f) → es.length < 9223372036854775808 → fs.length < 9223372036854775808 → s.length < 9223372036854775808 →
  PgTy (.agg [.int .i64 a0, .int .i64 a1, .int .i64 a2, .int .i64 a3, .int .i64 a4, .bool b, p, .int .i64 a7, .str s, q])
theorem PgTy.zero : PgTy zeroPage := .mk 0 0 0 0 0 false .nils 0 [] .nils [] [] (.sl .nil) (.sl .nil) (by simp) (by simp) (by decide) (by decide) (by decide)
theorem SlP.at {sz p xs} {ty e : TypeId} {k : Nat} (H : SlP (sz + 1) p xs) (hu : cx.under ty = some (.slice e)) (hs : sizeOf? cx e = some (sz + 1)) (hk : k < xs.length) : indexAddr? cx ty (.p p) (.p (.int .i64 (k : Int))) = some (.cptr (xs.getD k .nilp)) := by
 rw [(H.sl []).at (sz := sz) hu hs (by omega) (by omega), Int.toNat_natCast]
 cases H with
 | nil => simp at hk
 | vec => rfl
theorem SlQ.at {sz p xs} {ty e : TypeId} {k : Nat} (H : SlQ (sz + 1) p xs) (hu : cx.under ty = some (.slice e)) (hs : sizeOf? cx e = some (sz + 1)) (hk : k < xs.length) : indexAddr? cx ty (.p p) (.p (.int .i64 (k : Int))) = some (.cptr (xs.getD k .nilp)) := by
 cases H with
 | sl H => exact H.at hu hs hk
 | emp => simp at hk
theorem EntOk.eok {x : PV} (H : EntOk x) : EOk cx 50 x := by
 cases H with
 | mk => exact eok_agg a50 s50 rfl
theorem getD_mem {xs : List PV} {k : Nat} (hk : k < xs.length) : xs.getD k .nilp ∈ xs := by
 rw [List.getD, List.getElem?_eq_getElem hk]; exact List.getElem_mem hk
theorem f154a (v : Int) (p : PV) : fieldAddr? cx 154 (.cptr (.agg [.int .i64 v, p])) 0 = some (.cptr (.int .i64 v)) := by kernel_rfl
theorem f154b (v : Int) (p : PV) : fieldAddr? cx 154 (.cptr (.agg [.int .i64 v, p])) 1 = some (.cptr p) := by kernel_rfl
theorem ld_ci (h : List Ob) (n : Int) : load? cx h 3 (.cptr (.int .i64 n)) = some (.p (.int .i64 n)) := (eok_int (c := cx) (e := 3) a3).1
theorem ld_cs (h : List Ob) (s : List UInt8) : load? cx h 9 (.cptr (.str s)) = some (.p (.str s)) := (eok_str (c := cx) (e := 9) a9).1
section
variable {o : Orc} (ho : FreeT o)
include ho
theorem same38 {sz : Nat} {h a b l} (Ha : Sl h sz a (ints l)) (Hb : Sl h sz b (ints l)) (hsz : sz = 1 ∨ l = []) (hl : l.length < 9223372036854775808) : Ct cx o (.fn 38 [a, b]) h (fun e h' => h' = h ∧ e = .ret (.p (.bool true))) := by
 refine ct38 (ho _ _ _ (by decide) (by decide)) rfl ?_
 simp only [sc38r0, sc38r1, sc38r2, sc38r3, sc38r4, sc38r5, sc38d5_x, sc38r6, sc38r7, sc38r9, sc38, ↓rwS, rwT, rwG, Nat.reduceEqDiff, Nat.reduceAdd, reduceCtorEq, Nat.reduceLT, Ha.len u39, Hb.len u39, decide_true, Bool.not_true]
 refine xC_loop (fun m t h' d r => ∃ k : Nat, m = l.length - k ∧ k ≤ l.length ∧ h' = h ∧ d = [] ∧ r = none ∧ t.get 0 = a ∧ t.get 1 = b ∧ t.get 5 = .p (.int .i64 (k : Int))) l.length ?_ ?_
 ·refine ⟨0, rfl, by omega, rfl, rfl, rfl, ?_⟩
  simp only [↓rwA, rwB, rwG, Nat.reduceEqDiff, Nat.reduceAdd, reduceCtorEq, Nat.reduceLT, true_and]
  all_goals (first | rfl | exact ⟨rfl, rfl⟩ | exact trivial)
 ·rintro m t h' d r ⟨k, rfl, hk, rfl, rfl, rfl, t0, t1, t5⟩
  by_cases hlt : (k : Int) < (((ints l).length : Nat) : Int)
  ·have hkl : k < l.length := by rw [ints_length] at hlt; omega
   have hsz1 : sz = 1 := by
    rcases hsz with q | q
    ·exact q
    ·rw [q] at hkl; simp at hkl
   subst hsz1
   obtain ⟨ja, jd⟩ := int_at (k := k) Ha u39 hkl
   obtain ⟨jb, je⟩ := int_at (k := k) Hb u39 hkl
   have w1 := one63 (show k + 1 < 9223372036854775808 by omega)
   simp only [sc38r0, sc38r1, sc38r2, sc38r3, sc38r4, sc38r5, sc38d5_x, sc38r6, sc38r7, sc38l8, sc38r9, sc38, ↓rwS, rwT, rwG, Nat.reduceEqDiff, Nat.reduceAdd, reduceCtorEq, Nat.reduceLT, ↓rwC, rwD, rwI, Nat.reduceSub, Nat.reduceLeDiff, t0, t1, t5, Ha.len u39, hlt, decide_true, ja, jb, jd, je, Bool.not_true, w1]
   refine ⟨_, ?_, k + 1, rfl, by omega, ?_⟩
   all_goals (first | omega | rfl | exact ⟨rfl, rfl⟩ | exact trivial)
  ·simp only [sc38r0, sc38r1, sc38r2, sc38r3, sc38r4, sc38r5, sc38d5_x, sc38r6, sc38r7, sc38l8, sc38r9, sc38, ↓rwS, rwT, rwG, Nat.reduceEqDiff, Nat.reduceAdd, reduceCtorEq, Nat.reduceLT, t0, t1, t5, Ha.len u39, hlt, decide_false]
   first | rfl | exact ⟨rfl, rfl⟩ | exact ⟨trivial, rfl⟩ | trivial
theorem same148 {p : PV} {es : List PV} (H : SlQ 22 p es) (he : ∀ e ∈ es, EntOk e) (hl : es.length < 9223372036854775808) : Ct cx o (.fn 148 [.p p, .p p]) [] (fun e _ => e = .ret (.p (.bool true))) := by
 refine ct148 (ho _ _ _ (by decide) (by decide)) rfl ?_
 have hlen : ∀ hh : List Ob, lenW cx hh 76 (.p p) = _ := fun hh => H.len u76 hh
 simp only [sc148r0, sc148r1, sc148r2, sc148r3, sc148r4, sc148r5, sc148d5_x, sc148r6, sc148r7, sc148r9, sc148, ↓rwS, rwT, rwG, Nat.reduceEqDiff, Nat.reduceAdd, reduceCtorEq, Nat.reduceLT, hlen, decide_true, Bool.not_true]
 refine xC_loop (fun m t h' d r => ∃ k : Nat, m = es.length - k ∧ k ≤ es.length ∧ d = [] ∧ r = none ∧ t.get 0 = .p p ∧ t.get 1 = .p p ∧ t.get 5 = .p (.int .i64 (k : Int))) es.length ?_ ?_
 ·refine ⟨0, rfl, by omega, rfl, rfl, ?_⟩
  simp only [↓rwA, rwB, rwG, Nat.reduceEqDiff, Nat.reduceAdd, reduceCtorEq, Nat.reduceLT, true_and]
  all_goals (first | rfl | exact ⟨rfl, rfl⟩ | exact trivial)
 ·rintro m t h' d r ⟨k, rfl, hk, rfl, rfl, t0, t1, t5⟩
  by_cases hlt : (k : Int) < ((es.length : Nat) : Int)
  ·have hkl : k < es.length := by omega
   have ja := H.at (k := k) (sz := 21) u76 s50 hkl
   have hE := he _ (getD_mem hkl)
   have jd : ∀ hh : List Ob, load? cx hh 50 (.cptr (es.getD k .nilp)) = some (.p (es.getD k .nilp)) := fun hh => hE.eok.1
   have hn : ∀ q : Bool, bin3 .neq cx 50 q (.p (es.getD k .nilp)) (.p (es.getD k .nilp)) = _ := fun q => ent_neq q hE
   have w1 := one63 (show k + 1 < 9223372036854775808 by omega)
   simp only [sc148r0, sc148r1, sc148r2, sc148r3, sc148r4, sc148r5, sc148d5_x, sc148r6, sc148r7, sc148l8, sc148r9, sc148, ↓rwS, rwT, rwG, Nat.reduceEqDiff, Nat.reduceAdd, reduceCtorEq, Nat.reduceLT, ↓rwC, rwD, rwI, Nat.reduceSub, Nat.reduceLeDiff, t0, t1, t5, hlen, hlt, decide_true, ja, jd, hn, w1]
   refine ⟨_, ?_, k + 1, rfl, by omega, ?_⟩
   all_goals (first | omega | rfl | exact ⟨rfl, rfl⟩ | exact trivial)
  ·simp only [sc148r0, sc148r1, sc148r2, sc148r3, sc148r4, sc148r5, sc148d5_x, sc148r6, sc148r7, sc148l8, sc148r9, sc148, ↓rwS, rwT, rwG, Nat.reduceEqDiff, Nat.reduceAdd, reduceCtorEq, Nat.reduceLT, t0, t1, t5, hlen, hlt, decide_false]
   try (first | rfl | exact ⟨rfl, rfl⟩ | exact ⟨trivial, rfl⟩ | trivial)
theorem call38p {p : PV} {l : List Int} (H : SlQ 1 p (ints l)) (hl : l.length < 9223372036854775808) {h dst t d r K Q} : callW cx o dst t h d r (some (.fn 38 [.p p, .p p])) K Q = K (put dst (.p (.bool true)) t) h d r :=
 callW_ret ext38 (cs_p (f := 38) (ps := [p, p]) rfl (by
  generalize hxs : ints l = xs at H
  cases H with
  | sl H =>
   subst hxs
   obtain ⟨e, h', hr, h1, h2⟩ := same38 ho (H.sl []) (H.sl []) (.inl rfl) hl
   exact ⟨e, h', hr, h2⟩
  | emp =>
   have hl0 : l = [] := by unfold ints at hxs; exact List.map_eq_nil_iff.1 hxs
   subst hl0
   obtain ⟨e, h', hr, h1, h2⟩ := same38 ho (h := []) (a := .p (.vec 0 [])) (b := .p (.vec 0 [])) (l := []) (sz := 0) (.vec _) (.vec _) (.inr rfl) hl
   exact ⟨e, h', hr, h2⟩))
theorem same149 {p : PV} {fs : List PV} (H : SlQ 2 p fs) (he : ∀ e ∈ fs, FrdOk e) (hl : fs.length < 9223372036854775808) : Ct cx o (.fn 149 [.p p, .p p]) [] (fun e _ => e = .ret (.p (.bool true))) := by
 refine ct149 (ho _ _ _ (by decide) (by decide)) rfl ?_
 have hlen : ∀ hh : List Ob, lenW cx hh 77 (.p p) = _ := fun hh => H.len u77 hh
 simp only [sc149r0, sc149r1, sc149r2, sc149r3, sc149r4, sc149r5, sc149d5_x, sc149r6, sc149r7, sc149r9, sc149, ↓rwS, rwT, rwG, Nat.reduceEqDiff, Nat.reduceAdd, reduceCtorEq, Nat.reduceLT, hlen, decide_true, Bool.not_true]
 refine xC_loop (fun m t h' d r => ∃ k : Nat, m = fs.length - k ∧ k ≤ fs.length ∧ d = [] ∧ r = none ∧ t.get 0 = .p p ∧ t.get 1 = .p p ∧ t.get 5 = .p (.int .i64 (k : Int))) fs.length ?_ ?_
 ·refine ⟨0, rfl, by omega, rfl, rfl, ?_⟩
  simp only [↓rwA, rwB, rwG, Nat.reduceEqDiff, Nat.reduceAdd, reduceCtorEq, Nat.reduceLT, true_and]
  all_goals (first | rfl | exact ⟨rfl, rfl⟩ | exact trivial)
 ·rintro m t h' d r ⟨k, rfl, hk, rfl, rfl, t0, t1, t5⟩
  by_cases hlt : (k : Int) < ((fs.length : Nat) : Int)
  ·have hkl : k < fs.length := by omega
   have ja := H.at (k := k) (sz := 1) u77 s154 hkl
   have hE := he _ (getD_mem hkl)
   generalize fs.getD k .nilp = x at ja hE
   cases hE with
   | mk v p2 l H2 hl2 =>
    have jd : ∀ hh : List Ob, load? cx hh 39 (.cptr p2) = some (.p p2) := fun hh => H2.eok.1
    have w1 := one63 (show k + 1 < 9223372036854775808 by omega)
    simp only [sc149r0, sc149r1, sc149r2, sc149r3, sc149r4, sc149r5, sc149d5_x, sc149r6, sc149r7, sc149l8, sc149r9, sc149, ↓rwS, rwT, rwG, Nat.reduceEqDiff, Nat.reduceAdd, reduceCtorEq, Nat.reduceLT, ↓rwC, rwD, rwI, Nat.reduceSub, Nat.reduceLeDiff, t0, t1, t5, hlen, hlt, decide_true, ja, f154a, f154b, ld_ci, jd, call38p ho H2 hl2, Bool.not_true, not_b, w1]
    refine ⟨_, ?_, k + 1, rfl, by omega, ?_⟩
    all_goals (first | omega | rfl | exact ⟨rfl, rfl⟩ | exact trivial)
  ·simp only [sc149r0, sc149r1, sc149r2, sc149r3, sc149r4, sc149r5, sc149d5_x, sc149r6, sc149r7, sc149l8, sc149r9, sc149, ↓rwS, rwT, rwG, Nat.reduceEqDiff, Nat.reduceAdd, reduceCtorEq, Nat.reduceLT, t0, t1, t5, hlen, hlt, decide_false]
   try (first | rfl | exact ⟨rfl, rfl⟩ | exact ⟨trivial, rfl⟩ | trivial)
end
structure SpcI (S : Spc) : Prop where
 h0 : SlP 10 S.p0 S.pgs
 h1 : SlP 1 S.p1 (ints S.fr)
 h2 : SlP 1 S.p2 (ints S.fs)
 h3 : SlP 1 S.p3 (ints S.gn)
 pg : ∀ p ∈ S.pgs, PgTy p
def Spc.small (S : Spc) : Prop := S.pgs.length ≤ 60 ∧ S.fr.length ≤ 60 ∧ S.fs.length ≤ 60 ∧ S.gn.length ≤ 60
theorem SpcI.ok {S : Spc} (I : SpcI S) (h : S.small) : SpcOk S := ⟨I.h0, I.h1, I.h2, I.h3, by have := h.1; omega, by have := h.2.1; omega, by have := h.2.2.1; omega, by have := h.2.2.2; omega⟩
theorem PgTy.pgOk {p : PV} (H : PgTy p) : ∃ l, p = .agg l ∧ l.length = 10 := by cases H with | mk => exact ⟨_, rfl, rfl⟩
theorem PgTy.eok {p : PV} (H : PgTy p) : EOk cx 79 p := by cases H with | mk => exact eok_agg a79 s79 rfl
theorem EntOk.f0 {x : PV} (H : EntOk x) : ∃ s, fieldAddr? cx 50 (.cptr x) 0 = some (.cptr (.str s)) := by
 cases H with | mk k => exact ⟨k, by kernel_rfl⟩
theorem EntOk.f1 {x : PV} (H : EntOk x) : ∃ s, fieldAddr? cx 50 (.cptr x) 1 = some (.cptr (.str s)) := by
 cases H with | mk k v => exact ⟨v, by kernel_rfl⟩
section
variable {o : Orc} (ho : FreeT o)
include ho
theorem weight36 {p : PV} (H : PgTy p) : Ct cx o (.fn 36 [.p p]) [] (fun e _ => ∃ n : Int, e = .ret (.p (.int .i64 n))) := by
 refine ct36 (ho _ _ _ (by decide) (by decide)) rfl ?_
 cases H with
 | mk i0 i1 i2 i3 i4 b p i7 s q es fs hp hq he hf le lf ls =>
  have hbox : ∀ hh : List Ob, boxW hh 79 (.p (.agg [.int .i64 i0, .int .i64 i1, .int .i64 i2, .int .i64 i3, .int .i64 i4, .bool b, p, .int .i64 i7, .str s, q])) = .wn (.ptr hh.length 0) (.cells 79 [.p (.int .i64 i0), .p (.int .i64 i1), .p (.int .i64 i2), .p (.int .i64 i3), .p (.int .i64 i4), .p (.bool b), .p p, .p (.int .i64 i7), .p (.str s), .p q]) := fun hh => rfl
  have f6 : fieldAddr? cx 79 (.ptr 0 0) 6 = some (.ptr 0 6) := fieldAddr_ptr (m := 0) f79_6 s76
  have f8 : fieldAddr? cx 79 (.ptr 0 0) 8 = some (.ptr 0 8) := fieldAddr_ptr (m := 0) f79_8 s9
  have f9 : fieldAddr? cx 79 (.ptr 0 0) 9 = some (.ptr 0 9) := fieldAddr_ptr (m := 0) f79_9 s77
  generalize hM : [Ob.cells 79 [.p (.int .i64 i0), .p (.int .i64 i1), .p (.int .i64 i2), .p (.int .i64 i3), .p (.int .i64 i4), .p (.bool b), .p p, .p (.int .i64 i7), .p (.str s), .p q]] = M
  have y : hget M 0 = .cells 79 [.p (.int .i64 i0), .p (.int .i64 i1), .p (.int .i64 i2), .p (.int .i64 i3), .p (.int .i64 i4), .p (.bool b), .p p, .p (.int .i64 i7), .p (.str s), .p q] := by rw [← hM]; rfl
  have d6 : load? cx M 76 (.ptr 0 6) = some (.p p) := load_one a76 y rfl
  have d8 : load? cx M 9 (.ptr 0 8) = some (.p (.str s)) := load_one a9 y rfl
  have d9 : load? cx M 77 (.ptr 0 9) = some (.p q) := load_one a77 y rfl
  have e6 : lenW cx M 76 (.p p) = _ := hp.len u76 M
  have e9 : lenW cx M 77 (.p q) = _ := hq.len u77 M
  simp only [sc36r0, sc36r1, sc36r2, sc36r3, sc36r4, sc36d4_x, sc36r5, sc36r7, sc36r8, sc36r9, sc36r10, sc36r12, sc36, ↓rwS, rwT, rwG, Nat.reduceEqDiff, Nat.reduceAdd, reduceCtorEq, Nat.reduceLT, hbox, List.nil_append, List.length_nil, hM, f8, d8, len_str u9]
  refine xC_loop (fun m t h' d r => ∃ k : Nat, m = es.length - k ∧ k ≤ es.length ∧ M = h' ∧ d = [] ∧ r = none ∧ t.get 1 = .ptr 0 0 ∧ t.get 4 = .p (.int .i64 (k : Int)) ∧ ∃ n : Int, t.get 3 = .p (.int .i64 n)) es.length ?_ ?_
  ·refine ⟨0, rfl, by omega, rfl, rfl, rfl, ?_⟩
   simp only [↓rwA, rwB, rwG, Nat.reduceEqDiff, Nat.reduceAdd, reduceCtorEq, Nat.reduceLT, true_and]
   exact ⟨rfl, _, rfl⟩
  ·rintro m t h' d r ⟨k, rfl, hk, rfl, rfl, rfl, t1, t4, n, t3⟩
   by_cases hlt : (k : Int) < ((es.length : Nat) : Int)
   ·have hkl : k < es.length := by omega
    have ja := hp.at (k := k) (sz := 21) u76 s50 hkl
    have hE := he _ (getD_mem hkl)
    obtain ⟨sk, hsk⟩ := hE.f0
    obtain ⟨sv, hsv⟩ := hE.f1
    have w1 := one63 (show k + 1 < 9223372036854775808 by omega)
    simp only [sc36r0, sc36r1, sc36r2, sc36r3, sc36r4, sc36d4_x, sc36r5, sc36l6, sc36r7, sc36r8, sc36r9, sc36r10, sc36l11, sc36r12, sc36, ↓rwS, rwT, rwG, Nat.reduceEqDiff, Nat.reduceAdd, reduceCtorEq, Nat.reduceLT, ↓rwC, rwD, rwI, Nat.reduceSub, Nat.reduceLeDiff, t1, t3, t4, f6, d6, e6, hlt, decide_true, ja, hsk, hsv, ld_cs, len_str u9, w1]
    refine ⟨_, ?_, k + 1, rfl, by omega, ?_⟩
    all_goals (first | omega | exact ⟨rfl, _, rfl⟩ | exact ⟨_, rfl⟩ | exact ⟨trivial, trivial, trivial, trivial, rfl, _, rfl⟩ | trace_state)
   ·simp only [sc36r0, sc36r1, sc36r2, sc36r3, sc36r4, sc36d4_x, sc36r5, sc36r7, sc36r8, sc36r9, sc36r10, sc36r12, sc36, sc36l6, ↓rwS, rwT, rwG, Nat.reduceEqDiff, Nat.reduceAdd, reduceCtorEq, Nat.reduceLT, t1, t3, t4, f6, d6, e6, hlt, decide_false]
    refine xC_loop (fun m t h' d r => ∃ k : Nat, m = fs.length - k ∧ k ≤ fs.length ∧ M = h' ∧ d = [] ∧ r = none ∧ t.get 1 = .ptr 0 0 ∧ t.get 5 = .p (.int .i64 (k : Int)) ∧ ∃ n : Int, t.get 3 = .p (.int .i64 n)) fs.length ?_ ?_
    ·refine ⟨0, rfl, by omega, rfl, rfl, rfl, ?_⟩
     simp only [↓rwA, rwB, rwG, Nat.reduceEqDiff, Nat.reduceAdd, reduceCtorEq, Nat.reduceLT, true_and, t1, t3]
     exact ⟨rfl, _, rfl⟩
    ·rintro m t h' d r ⟨k, rfl, hk, rfl, rfl, rfl, t1, t5, n, t3⟩
     by_cases hlt : (k : Int) < ((fs.length : Nat) : Int)
     ·have hkl : k < fs.length := by omega
      have ja := hq.at (k := k) (sz := 1) u77 s154 hkl
      have hE := hf _ (getD_mem hkl)
      generalize fs.getD k .nilp = x at ja hE
      cases hE with
      | mk v p2 l H2 hl2 =>
       have jd : ∀ hh : List Ob, load? cx hh 39 (.cptr p2) = some (.p p2) := fun hh => H2.eok.1
       have je : ∀ hh : List Ob, lenW cx hh 39 (.p p2) = _ := fun hh => H2.len u39 hh
       have w1 := one63 (show k + 1 < 9223372036854775808 by omega)
       simp only [sc36r0, sc36r1, sc36r2, sc36r3, sc36r4, sc36d4_x, sc36r5, sc36l6, sc36r7, sc36r8, sc36r9, sc36r10, sc36l11, sc36r12, sc36, ↓rwS, rwT, rwG, Nat.reduceEqDiff, Nat.reduceAdd, reduceCtorEq, Nat.reduceLT, ↓rwC, rwD, rwI, Nat.reduceSub, Nat.reduceLeDiff, t1, t3, t5, f9, d9, e9, hlt, decide_true, ja, f154b, jd, je, w1]
       refine ⟨_, ?_, k + 1, rfl, by omega, ?_⟩
       all_goals (first | omega | exact ⟨rfl, _, rfl⟩ | exact ⟨_, rfl⟩ | exact ⟨trivial, trivial, trivial, trivial, rfl, _, rfl⟩ | trace_state)
     ·simp only [sc36r0, sc36r1, sc36r2, sc36r3, sc36r4, sc36d4_x, sc36r5, sc36l6, sc36r7, sc36r8, sc36r9, sc36r10, sc36l11, sc36r12, sc36, ↓rwS, rwT, rwG, Nat.reduceEqDiff, Nat.reduceAdd, reduceCtorEq, Nat.reduceLT, t1, t3, t5, f9, d9, e9, hlt, decide_false]
      exact ⟨_, rfl⟩
theorem wcs36 {p : PV} (H : PgTy p) (h : List Ob) : ∃ n : Int, CS cx o (.fn 36 [.p p]) h (.ret (.p (.int .i64 n))) h := by
 obtain ⟨e, h', hr, n, rfl⟩ := weight36 ho H
 exact ⟨n, cs_p (f := 36) (ps := [p]) rfl ⟨_, h', hr, rfl⟩⟩
theorem small12 {S : Spc} (I : SpcI S) : Ct cx o (.fn 12 [.p S.v]) [] (fun e _ => ∃ b, e = .ret (.p (.bool b)) ∧ (b = true → S.small)) := by
 refine ct12 (ho _ _ _ (by decide) (by decide)) rfl ?_
 have fa0 : fieldAddr? cx 41 (.ptr 0 0) 0 = some (.ptr 0 0) := fieldAddr_ptr (m := 0) f41_0 s38
 have fa1 : fieldAddr? cx 41 (.ptr 0 0) 1 = some (.ptr 0 1) := fieldAddr_ptr (m := 0) f41_1 s39
 have fa2 : fieldAddr? cx 41 (.ptr 0 0) 2 = some (.ptr 0 2) := fieldAddr_ptr (m := 0) f41_2 s39
 have fa3 : fieldAddr? cx 41 (.ptr 0 0) 3 = some (.ptr 0 3) := fieldAddr_ptr (m := 0) f41_3 s39
 have ld0 : load? cx [.cells 41 S.cells] 38 (.ptr 0 0) = some (.p S.p0) := load_one a38 rfl rfl
 have ld1 : load? cx [.cells 41 S.cells] 39 (.ptr 0 1) = some (.p S.p1) := load_one a39 rfl rfl
 have ld2 : load? cx [.cells 41 S.cells] 39 (.ptr 0 2) = some (.p S.p2) := load_one a39 rfl rfl
 have ld3 : load? cx [.cells 41 S.cells] 39 (.ptr 0 3) = some (.p S.p3) := load_one a39 rfl rfl
 have e0 : lenW cx [.cells 41 S.cells] 38 (.p S.p0) = _ := (I.h0.sl _).len u38
 have e1 : lenW cx [.cells 41 S.cells] 39 (.p S.p1) = _ := (I.h1.sl _).len u39
 have e2 : lenW cx [.cells 41 S.cells] 39 (.p S.p2) = _ := (I.h2.sl _).len u39
 have e3 : lenW cx [.cells 41 S.cells] 39 (.p S.p3) = _ := (I.h3.sl _).len u39
 rw [ints_length] at e1 e2 e3
 by_cases c0 : (60 : Int) < ((S.pgs.length : Nat) : Int)
 ·simp only [sc12r0, sc12r1, sc12r2, sc12r3, sc12r4, sc12r5, sc12r6, sc12r7, sc12r9, sc12, ↓rwS, rwT, rwG, Nat.reduceEqDiff, Nat.reduceAdd, reduceCtorEq, Nat.reduceLT, hbox, List.nil_append, List.length_nil, fa0, ld0, e0, c0, decide_true]
  exact ⟨_, rfl, fun q => by cases q⟩
 by_cases c1 : (60 : Int) < ((S.fr.length : Nat) : Int)
 ·simp only [sc12r0, sc12r1, sc12r2, sc12r3, sc12r4, sc12r5, sc12r6, sc12r7, sc12r9, sc12, ↓rwS, rwT, rwG, Nat.reduceEqDiff, Nat.reduceAdd, reduceCtorEq, Nat.reduceLT, hbox, List.nil_append, List.length_nil, fa0, ld0, e0, c0, fa1, ld1, e1, c1, decide_true, decide_false]
  exact ⟨_, rfl, fun q => by cases q⟩
 by_cases c2 : (60 : Int) < ((S.fs.length : Nat) : Int)
 ·simp only [sc12r0, sc12r1, sc12r2, sc12r3, sc12r4, sc12r5, sc12r6, sc12r7, sc12r9, sc12, ↓rwS, rwT, rwG, Nat.reduceEqDiff, Nat.reduceAdd, reduceCtorEq, Nat.reduceLT, hbox, List.nil_append, List.length_nil, fa0, ld0, e0, c0, fa1, ld1, e1, c1, fa2, ld2, e2, c2, decide_true, decide_false]
  exact ⟨_, rfl, fun q => by cases q⟩
 by_cases c3 : (60 : Int) < ((S.gn.length : Nat) : Int)
 ·simp only [sc12r0, sc12r1, sc12r2, sc12r3, sc12r4, sc12r5, sc12r6, sc12r7, sc12r9, sc12, ↓rwS, rwT, rwG, Nat.reduceEqDiff, Nat.reduceAdd, reduceCtorEq, Nat.reduceLT, hbox, List.nil_append, List.length_nil, fa0, ld0, e0, c0, fa1, ld1, e1, c1, fa2, ld2, e2, c2, fa3, ld3, e3, c3, decide_true, decide_false]
  exact ⟨_, rfl, fun q => by cases q⟩
 have hsm : S.small := ⟨by omega, by omega, by omega, by omega⟩
 simp only [sc12r0, sc12r1, sc12r2, sc12r3, sc12r4, sc12r5, sc12r6, sc12r7, sc12r9, sc12, ↓rwS, rwT, rwG, Nat.reduceEqDiff, Nat.reduceAdd, reduceCtorEq, Nat.reduceLT, hbox, List.nil_append, List.length_nil, fa0, ld0, e0, c0, fa1, ld1, e1, c1, fa2, ld2, e2, c2, fa3, ld3, e3, c3, decide_false]
 refine xC_loop (fun m t h' d r => ∃ k : Nat, m = S.pgs.length - k ∧ k ≤ S.pgs.length ∧ h' = [.cells 41 S.cells] ∧ d = [] ∧ r = none ∧ t.get 1 = .ptr 0 0 ∧ t.get 4 = .p (.int .i64 (k : Int)) ∧ ∃ n : Int, t.get 3 = .p (.int .i64 n)) S.pgs.length ?_ ?_
 ·refine ⟨0, rfl, by omega, rfl, rfl, rfl, ?_⟩
  simp only [↓rwA, rwB, rwG, Nat.reduceEqDiff, Nat.reduceAdd, reduceCtorEq, Nat.reduceLT, true_and]
  exact ⟨rfl, _, rfl⟩
 ·rintro m t h' d r ⟨k, rfl, hk, rfl, rfl, rfl, t1, t4, n, t3⟩
  by_cases hlt : (k : Int) < ((S.pgs.length : Nat) : Int)
  ·have hkl : k < S.pgs.length := by omega
   have ja := I.h0.at (k := k) (sz := 9) u38 s79 hkl
   have hP := I.pg _ (getD_mem hkl)
   obtain ⟨n2, hn2⟩ := wcs36 ho hP [.cells 41 S.cells]
   have jd : ∀ hh : List Ob, load? cx hh 79 (.cptr (S.pgs.getD k .nilp)) = some (.p (S.pgs.getD k .nilp)) := fun hh => hP.eok.1
   have w1 := one63 (show k + 1 < 9223372036854775808 by omega)
   simp only [sc12r0, sc12r1, sc12r2, sc12r3, sc12r4, sc12r5, sc12r6, sc12r7, sc12l8, sc12r9, sc12, ↓rwS, rwT, rwG, Nat.reduceEqDiff, Nat.reduceAdd, reduceCtorEq, Nat.reduceLT, t1, t3, t4, fa0, ld0, e0, hlt, decide_true, ja, jd, callW_ret ext36 hn2, w1]
   refine ⟨_, ?_, k + 1, rfl, by omega, ?_⟩
   all_goals (first | omega | exact ⟨rfl, _, rfl⟩ | exact ⟨_, rfl⟩ | exact ⟨trivial, trivial, trivial, trivial, rfl, _, rfl⟩ | trace_state)
  ·simp only [sc12r0, sc12r1, sc12r2, sc12r3, sc12r4, sc12r5, sc12r6, sc12r7, sc12l8, sc12r9, sc12, ↓rwS, rwT, rwG, Nat.reduceEqDiff, Nat.reduceAdd, reduceCtorEq, Nat.reduceLT, t1, t3, t4, fa0, ld0, e0, hlt, decide_false]
   exact ⟨_, rfl, fun _ => hsm⟩
end
end Go.Proofs

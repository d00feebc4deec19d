/- What is proved: the codes' law returns true of any list of strings and any string ('law3'). Conditions: the examples come to true. -/
import Derived.Test.YtjajjhfbdfdfnaaGreatC02
import Derived.Test.YtjajjhfbdfdfnaaGreatA10
set_option linter.all false
set_option linter.unusedVariables false
set_option linter.unusedSimpArgs false
set_option linter.unnecessarySimpa false
set_option linter.deprecated false
set_option maxRecDepth 100000
namespace Go.Proofs
open Go Go.Ai

theorem isSetB_ne {l} (h : isSetB l = true) : ∀ i, i < l.length → l.getD i [] ≠ [] := by
  intro i hi e
  unfold isSetB at h
  have h1 := (Bool.and_eq_true _ _ ▸ h).1
  have := List.all_eq_true.1 h1 i (List.mem_range.2 hi)
  unfold okAt at this
  rw [e] at this
  simp [isKeyB] at this

theorem call32 {o : Orc} (ho : Free o) {v h l dst t d r k Q} (H : Txts h v l) (hl : l.length < 1000000) : callW cx o dst t h d r (some (.fn 32 [v])) k Q = k (put dst (.p (.bool (isSetB l))) t) h d r :=
  callW_ret ext32 (cs_txts H rfl fun v0 h0 H0 => by
    obtain ⟨e, h', h1, h2, h3⟩ := isSet32 ho H0 hl
    exact ⟨e, h', h1, h2, [], by rw [h3]; simp⟩)
theorem call34 {o : Orc} (ho : Free o) {v h l dst t d r k Q} (H : Txts h v l) (hl : l.length < 1000000) : callW cx o dst t h d r (some (.fn 34 [v])) k Q = k (put dst (.p (.bool (isSetB l))) t) h d r :=
  callW_ret ext34 (cs_txts H rfl fun v0 h0 H0 => by
    obtain ⟨e, h', h1, h2, h3⟩ := isSet34 ho H0 hl
    exact ⟨e, h', h1, h2, [], by rw [h3]; simp⟩)
theorem call33 {o : Orc} (ho : Free o) {v h l dst t d r k Q} (H : Txts h v l) (hl : l.length < 900000) (hs : ∀ i, (l.getD i []).length ≤ 1000) (hne : ∀ i, i < l.length → l.getD i [] ≠ []) : callW cx o dst t h d r (some (.fn 33 [v])) k Q = k (put dst (.p (.str (encB l))) t) h d r :=
  callW_ret ext33 (cs_txts H rfl fun v0 h0 H0 => encoded33 ho H0 hl hs hne)
theorem call35 {o : Orc} (ho : Free o) {v h l dst t d r k Q} (H : Txts h v l) (hl : l.length < 1000000) (hs : ∀ i, (l.getD i []).length ≤ 1000) : callW cx o dst t h d r (some (.fn 35 [v])) k Q = k (put dst (.p (.str (encB l))) t) h d r :=
  callW_ret ext35 (cs_txts H rfl fun v0 h0 H0 => written35 ho H0 hl hs)
theorem call5 {o : Orc} (ho : Free o) {v h l dst t d r k Q} (H : Txts h v l) (hl : l.length < 9223372036854775800) : callW cx o dst t h d r (some (.fn 5 [v])) k Q = k (put dst (.p (.bool (shortB l))) t) h d r :=
  callW_ret ext5 (cs_txts H rfl fun v0 h0 H0 => short5 ho H0 hl)
theorem call11 {o : Orc} (ho : Free o) {v h l v' l' dst t d r k Q} (H : Txts h v l) (H' : Txts h v' l') (hl : l.length < 9223372036854775800) : callW cx o dst t h d r (some (.fn 11 [v, v'])) k Q = k (put dst (.p (.bool (decide (l = l')))) t) h d r :=
  callW_ret ext11 (cs_txts2 H H' rfl fun v0 v0' h0 H0 H0' => same11 ho H0 H0' hl)

def encR (l : List (List UInt8)) : List UInt8 × Int := if isSetB l then (if (64 : Int) < ((encB l).length : Int) then ([], 3) else (encB l, 0)) else ([], 2)

theorem encode7 {o : Orc} (ho : Free o) {v h l} (H : Txts h v l) (hl : l.length < 900000) (hs : ∀ i, (l.getD i []).length ≤ 1000) : Ct cx o (.fn 7 [v]) h (fun e h' => e = .ret (.tup [.p (.str (encR l).1), .p (.int .i64 (encR l).2)]) ∧ ∃ ext, h' = h ++ ext) := by
  refine ct7 (ho _ _ _ (by decide)) rfl ?_
  cases hset : isSetB l
  · simp only [sc7, sc7r0, sc7r1, sc7r2, u3, u4, u5, u9, u22, u25, u130, s3, s4, s5, s9, s22, s25, s29, s34, s130, a3, a4, a5, a9, a22, a25, a29, a34, a130, ↓xC_skip, ↓xC_reg, ↓xC_seq, ↓seqP_n, ↓seqP_ret, ↓seqP_pan, ↓seqP_exit, ↓xC_cond, ↓condW_true, ↓condW_false, ↓xC_block, ↓blockP_n, ↓blockP_ret, ↓blockP_pan, ↓blockP_exit, ↓loopP_n, ↓loopP_ret, ↓loopP_pan, ↓loopP_exit, ↓xC_exit, ↓xC_ret, ↓xOps_nil, ↓xOps_cons, ↓xOps_guard, ↓gW_tt, ↓gW_tf, ↓gW_ft, ↓gW_ff, ↓gW_un, ↓opW_w, ↓opW_ws, ↓opW_wn, ↓opW_wh, ↓opW_value, ↓opW_panic, put_some, put_none, target_fn, ev_tmp, ev_func, ev_int, ev_bool, ev_str, ev_nils, ev_nilp, ev_nili, ev_nilf, evs_nil, evs_cons, evp_nil, evp_cons, evo_none, evo_some, opD_move, opD_assign, opD_pick, pickW_true, pickW_false, pickW_bool, opD_bin, opD_not, opD_conv, opD_load, opD_store, opD_indexAddr, opD_index, opD_fieldAddr, opD_field, opD_extract, opD_len', len_str, len_nils, len_vec, len_sl, opD_alloc, opD_append', opD_buildSlice, opD_build, opD_slice', ofO_some, lss_i, leq_i, gtr_i, geq_i, eql_i, neq_i, add_i, sub_i, mul_i, not_b, eql_s, neq_s, lss_s, leq_s, end_ret, end_n, end_pan, Tm.get_set, argT, Nat.reduceEqDiff, Nat.reduceAdd, if_true, if_false, cond_true, cond_false, Bool.true_eq_false, Bool.false_eq_true, Bool.not_true, Bool.not_false, reduceCtorEq, List.toList_toArray, Nat.reduceLT, results?, vals, ite_true, ite_false, call32 ho H (by omega), hset]
    simp only [encR, hset]
    exact ⟨rfl, [], by simp⟩
  · by_cases hlen : (64 : Int) < ((encB l).length : Int)
    · simp only [sc7, sc7r0, sc7r1, sc7r2, sc7r3, sc7r4, sc7r5, sc7r6, u3, u4, u5, u9, u22, u25, u130, s3, s4, s5, s9, s22, s25, s29, s34, s130, a3, a4, a5, a9, a22, a25, a29, a34, a130, ↓xC_skip, ↓xC_reg, ↓xC_seq, ↓seqP_n, ↓seqP_ret, ↓seqP_pan, ↓seqP_exit, ↓xC_cond, ↓condW_true, ↓condW_false, ↓xC_block, ↓blockP_n, ↓blockP_ret, ↓blockP_pan, ↓blockP_exit, ↓loopP_n, ↓loopP_ret, ↓loopP_pan, ↓loopP_exit, ↓xC_exit, ↓xC_ret, ↓xOps_nil, ↓xOps_cons, ↓xOps_guard, ↓gW_tt, ↓gW_tf, ↓gW_ft, ↓gW_ff, ↓gW_un, ↓opW_w, ↓opW_ws, ↓opW_wn, ↓opW_wh, ↓opW_value, ↓opW_panic, put_some, put_none, target_fn, ev_tmp, ev_func, ev_int, ev_bool, ev_str, ev_nils, ev_nilp, ev_nili, ev_nilf, evs_nil, evs_cons, evp_nil, evp_cons, evo_none, evo_some, opD_move, opD_assign, opD_pick, pickW_true, pickW_false, pickW_bool, opD_bin, opD_not, opD_conv, opD_load, opD_store, opD_indexAddr, opD_index, opD_fieldAddr, opD_field, opD_extract, opD_len', len_str, len_nils, len_vec, len_sl, opD_alloc, opD_append', opD_buildSlice, opD_build, opD_slice', ofO_some, lss_i, leq_i, gtr_i, geq_i, eql_i, neq_i, add_i, sub_i, mul_i, not_b, eql_s, neq_s, lss_s, leq_s, end_ret, end_n, end_pan, Tm.get_set, argT, Nat.reduceEqDiff, Nat.reduceAdd, if_true, if_false, cond_true, cond_false, Bool.true_eq_false, Bool.false_eq_true, Bool.not_true, Bool.not_false, reduceCtorEq, List.toList_toArray, Nat.reduceLT, results?, vals, ite_true, ite_false, call32 ho H (by omega), call33 ho H hl hs (isSetB_ne hset), hset, hlen, decide_true]
      simp only [encR, hset, hlen, if_true]
      exact ⟨trivial, [], by simp⟩
    · simp only [sc7, sc7r0, sc7r1, sc7r2, sc7r3, sc7r4, sc7r5, sc7r6, u3, u4, u5, u9, u22, u25, u130, s3, s4, s5, s9, s22, s25, s29, s34, s130, a3, a4, a5, a9, a22, a25, a29, a34, a130, ↓xC_skip, ↓xC_reg, ↓xC_seq, ↓seqP_n, ↓seqP_ret, ↓seqP_pan, ↓seqP_exit, ↓xC_cond, ↓condW_true, ↓condW_false, ↓xC_block, ↓blockP_n, ↓blockP_ret, ↓blockP_pan, ↓blockP_exit, ↓loopP_n, ↓loopP_ret, ↓loopP_pan, ↓loopP_exit, ↓xC_exit, ↓xC_ret, ↓xOps_nil, ↓xOps_cons, ↓xOps_guard, ↓gW_tt, ↓gW_tf, ↓gW_ft, ↓gW_ff, ↓gW_un, ↓opW_w, ↓opW_ws, ↓opW_wn, ↓opW_wh, ↓opW_value, ↓opW_panic, put_some, put_none, target_fn, ev_tmp, ev_func, ev_int, ev_bool, ev_str, ev_nils, ev_nilp, ev_nili, ev_nilf, evs_nil, evs_cons, evp_nil, evp_cons, evo_none, evo_some, opD_move, opD_assign, opD_pick, pickW_true, pickW_false, pickW_bool, opD_bin, opD_not, opD_conv, opD_load, opD_store, opD_indexAddr, opD_index, opD_fieldAddr, opD_field, opD_extract, opD_len', len_str, len_nils, len_vec, len_sl, opD_alloc, opD_append', opD_buildSlice, opD_build, opD_slice', ofO_some, lss_i, leq_i, gtr_i, geq_i, eql_i, neq_i, add_i, sub_i, mul_i, not_b, eql_s, neq_s, lss_s, leq_s, end_ret, end_n, end_pan, Tm.get_set, argT, Nat.reduceEqDiff, Nat.reduceAdd, if_true, if_false, cond_true, cond_false, Bool.true_eq_false, Bool.false_eq_true, Bool.not_true, Bool.not_false, reduceCtorEq, List.toList_toArray, Nat.reduceLT, results?, vals, ite_true, ite_false, call32 ho H (by omega), call33 ho H hl hs (isSetB_ne hset), hset, hlen, decide_false]
      simp only [encR, hset, hlen, if_true, if_false]
      exact ⟨trivial, [], by simp⟩

theorem z29 : zero? cx 29 = some (.agg [.str [], .int .i64 0]) := by kernel_rfl
theorem b29_0 (s : List UInt8) : build? cx 29 [(0, .p (.str s))] = some (.p (.agg [.str s, .int .i64 0])) := by kernel_rfl
theorem b29_1 (n : Int) : build? cx 29 [(1, .p (.int .i64 n))] = some (.p (.agg [.str [], .int .i64 n])) := by kernel_rfl

theorem encode8 {o : Orc} (ho : Free o) {v h l} (H : Txts h v l) (hl : l.length < 900000) (hs : ∀ i, (l.getD i []).length ≤ 1000) : Ct cx o (.fn 8 [v]) h (fun e h' => e = .ret (.p (.agg [.str (encR l).1, .int .i64 (encR l).2])) ∧ ∃ ext, h' = h ++ ext) := by
  refine ct8 (ho _ _ _ (by decide)) rfl ?_
  have H1 : Txts (h ++ [.cells 29 ([PV.str [], PV.int .i64 0].map .p)]) v l := H.ext fun j hj => hget_app _ _ _ hj
  have st : ∀ a b : PV, store? cx (h ++ [.cells 29 ([PV.str [], PV.int .i64 0].map .p)]) 29 (.ptr h.length 0) (.p (.agg [a, b])) = .ws undefA h.length (.cells 29 [.p a, .p b]) := fun a b => store_whole s29 (hget_new _ _) rfl rfl rfl
  have ld : ∀ a b : PV, load? cx (h ++ [.cells 29 [.p a, .p b]]) 29 (.ptr h.length 0) = some (.p (.agg [a, b])) := fun a b => (load_whole a29 s29 (hget_new _ _) rfl).trans (congrArg some (mkAgg_p [a, b]))
  cases hset : isSetB l
  · simp only [sc8, sc8r0, sc8r1, sc8r2, u3, u4, u5, u9, u22, u25, u130, s3, s4, s5, s9, s22, s25, s29, s34, s130, a3, a4, a5, a9, a22, a25, a29, a34, a130, ↓xC_skip, ↓xC_reg, ↓xC_seq, ↓seqP_n, ↓seqP_ret, ↓seqP_pan, ↓seqP_exit, ↓xC_cond, ↓condW_true, ↓condW_false, ↓xC_block, ↓blockP_n, ↓blockP_ret, ↓blockP_pan, ↓blockP_exit, ↓loopP_n, ↓loopP_ret, ↓loopP_pan, ↓loopP_exit, ↓xC_exit, ↓xC_ret, ↓xOps_nil, ↓xOps_cons, ↓xOps_guard, ↓gW_tt, ↓gW_tf, ↓gW_ft, ↓gW_ff, ↓gW_un, ↓opW_w, ↓opW_ws, ↓opW_wn, ↓opW_wh, ↓opW_value, ↓opW_panic, put_some, put_none, target_fn, ev_tmp, ev_func, ev_int, ev_bool, ev_str, ev_nils, ev_nilp, ev_nili, ev_nilf, evs_nil, evs_cons, evp_nil, evp_cons, evo_none, evo_some, opD_move, opD_assign, opD_pick, pickW_true, pickW_false, pickW_bool, opD_bin, opD_not, opD_conv, opD_load, opD_store, opD_indexAddr, opD_index, opD_fieldAddr, opD_field, opD_extract, opD_len', len_str, len_nils, len_vec, len_sl, opD_alloc, opD_append', opD_buildSlice, opD_build, opD_slice', ofO_some, lss_i, leq_i, gtr_i, geq_i, eql_i, neq_i, add_i, sub_i, mul_i, not_b, eql_s, neq_s, lss_s, leq_s, end_ret, end_n, end_pan, Tm.get_set, argT, Nat.reduceEqDiff, Nat.reduceAdd, if_true, if_false, cond_true, cond_false, Bool.true_eq_false, Bool.false_eq_true, Bool.not_true, Bool.not_false, reduceCtorEq, List.toList_toArray, Nat.reduceLT, results?, vals, ite_true, ite_false, z29, PV.cells, call34 ho H1 (by omega), hset, b29_0, b29_1, st, hset_new, ld]
    simp only [encR, hset, if_false, Bool.false_eq_true, true_and]
    exact ⟨_, rfl⟩
  · by_cases hlen : (64 : Int) < ((encB l).length : Int)
    · simp only [sc8, sc8r0, sc8r1, sc8r2, sc8r3, sc8r4, sc8r5, sc8r6, u3, u4, u5, u9, u22, u25, u130, s3, s4, s5, s9, s22, s25, s29, s34, s130, a3, a4, a5, a9, a22, a25, a29, a34, a130, ↓xC_skip, ↓xC_reg, ↓xC_seq, ↓seqP_n, ↓seqP_ret, ↓seqP_pan, ↓seqP_exit, ↓xC_cond, ↓condW_true, ↓condW_false, ↓xC_block, ↓blockP_n, ↓blockP_ret, ↓blockP_pan, ↓blockP_exit, ↓loopP_n, ↓loopP_ret, ↓loopP_pan, ↓loopP_exit, ↓xC_exit, ↓xC_ret, ↓xOps_nil, ↓xOps_cons, ↓xOps_guard, ↓gW_tt, ↓gW_tf, ↓gW_ft, ↓gW_ff, ↓gW_un, ↓opW_w, ↓opW_ws, ↓opW_wn, ↓opW_wh, ↓opW_value, ↓opW_panic, put_some, put_none, target_fn, ev_tmp, ev_func, ev_int, ev_bool, ev_str, ev_nils, ev_nilp, ev_nili, ev_nilf, evs_nil, evs_cons, evp_nil, evp_cons, evo_none, evo_some, opD_move, opD_assign, opD_pick, pickW_true, pickW_false, pickW_bool, opD_bin, opD_not, opD_conv, opD_load, opD_store, opD_indexAddr, opD_index, opD_fieldAddr, opD_field, opD_extract, opD_len', len_str, len_nils, len_vec, len_sl, opD_alloc, opD_append', opD_buildSlice, opD_build, opD_slice', ofO_some, lss_i, leq_i, gtr_i, geq_i, eql_i, neq_i, add_i, sub_i, mul_i, not_b, eql_s, neq_s, lss_s, leq_s, end_ret, end_n, end_pan, Tm.get_set, argT, Nat.reduceEqDiff, Nat.reduceAdd, if_true, if_false, cond_true, cond_false, Bool.true_eq_false, Bool.false_eq_true, Bool.not_true, Bool.not_false, reduceCtorEq, List.toList_toArray, Nat.reduceLT, results?, vals, ite_true, ite_false, z29, PV.cells, call34 ho H1 (by omega), call35 ho H1 (by omega) hs, hset, b29_0, b29_1, st, hset_new, ld, hlen, decide_true]
      simp only [encR, hset, hlen, if_true, true_and]
      exact ⟨_, rfl⟩
    · simp only [sc8, sc8r0, sc8r1, sc8r2, sc8r3, sc8r4, sc8r5, sc8r6, u3, u4, u5, u9, u22, u25, u130, s3, s4, s5, s9, s22, s25, s29, s34, s130, a3, a4, a5, a9, a22, a25, a29, a34, a130, ↓xC_skip, ↓xC_reg, ↓xC_seq, ↓seqP_n, ↓seqP_ret, ↓seqP_pan, ↓seqP_exit, ↓xC_cond, ↓condW_true, ↓condW_false, ↓xC_block, ↓blockP_n, ↓blockP_ret, ↓blockP_pan, ↓blockP_exit, ↓loopP_n, ↓loopP_ret, ↓loopP_pan, ↓loopP_exit, ↓xC_exit, ↓xC_ret, ↓xOps_nil, ↓xOps_cons, ↓xOps_guard, ↓gW_tt, ↓gW_tf, ↓gW_ft, ↓gW_ff, ↓gW_un, ↓opW_w, ↓opW_ws, ↓opW_wn, ↓opW_wh, ↓opW_value, ↓opW_panic, put_some, put_none, target_fn, ev_tmp, ev_func, ev_int, ev_bool, ev_str, ev_nils, ev_nilp, ev_nili, ev_nilf, evs_nil, evs_cons, evp_nil, evp_cons, evo_none, evo_some, opD_move, opD_assign, opD_pick, pickW_true, pickW_false, pickW_bool, opD_bin, opD_not, opD_conv, opD_load, opD_store, opD_indexAddr, opD_index, opD_fieldAddr, opD_field, opD_extract, opD_len', len_str, len_nils, len_vec, len_sl, opD_alloc, opD_append', opD_buildSlice, opD_build, opD_slice', ofO_some, lss_i, leq_i, gtr_i, geq_i, eql_i, neq_i, add_i, sub_i, mul_i, not_b, eql_s, neq_s, lss_s, leq_s, end_ret, end_n, end_pan, Tm.get_set, argT, Nat.reduceEqDiff, Nat.reduceAdd, if_true, if_false, cond_true, cond_false, Bool.true_eq_false, Bool.false_eq_true, Bool.not_true, Bool.not_false, reduceCtorEq, List.toList_toArray, Nat.reduceLT, results?, vals, ite_true, ite_false, z29, PV.cells, call34 ho H1 (by omega), call35 ho H1 (by omega) hs, hset, b29_0, b29_1, st, hset_new, ld, hlen, decide_false]
      simp only [encR, hset, hlen, if_true, if_false, true_and]
      exact ⟨_, rfl⟩
end Go.Proofs
set_option maxRecDepth 100000
namespace Go.Proofs
open Go Go.Ai

/-- The values whose encoding a text is. -/
def parse (s : List UInt8) : Option (List (List UInt8)) := match s with
  | [] => some []
  | b :: r => if b.toNat ≤ r.length then (parse (r.drop b.toNat)).map (r.take b.toNat :: ·) else none
termination_by s.length
decreasing_by simp only [List.length_drop, List.length_cons]; omega
theorem parse_nil : parse [] = some [] := by unfold parse; rfl
theorem parse_cons (b r) : parse (b :: r) = if b.toNat ≤ r.length then (parse (r.drop b.toNat)).map (r.take b.toNat :: ·) else none := by rw [parse]
theorem parse_at {s : List UInt8} (h : 0 < s.length) : parse s = if (s.getD 0 0).toNat + 1 ≤ s.length then (parse (s.drop (1 + (s.getD 0 0).toNat))).map ((s.take (1 + (s.getD 0 0).toNat)).drop 1 :: ·) else none := by
  cases s with
  | nil => simp at h
  | cons b r =>
    rw [parse_cons]
    have e1 : List.getD (b :: r) 0 0 = b := rfl
    rw [e1, Nat.add_comm 1]
    simp only [List.length_cons, Nat.add_le_add_iff_right, List.drop_succ_cons, List.take_succ_cons, List.drop_zero]

def decR (s : List UInt8) : Option (List (List UInt8)) := if 64 < s.length then none else (match parse s with | none => none | some l => if isSetB l then some l else none)

/-- What Decode gives. -/
def DecP (s : List UInt8) (e : AEnd) (h' : List Ob) : Prop :=
  (decR s = none ∧ e = .ret (.tup [.p .nils, .p (.int .i64 2)])) ∨
  ∃ l i g, decR s = some l ∧ e = .ret (.tup [.sl i g 1 0 l.length, .p (.int .i64 0)]) ∧ hget h' i = .row 9 1 (l.map .str) false g
theorem Acc.txts {h e v l} (H : Acc h e 1 v (l.map .str)) : Txts h v l := by
  cases hq : l with
  | nil =>
    subst hq
    cases H with
    | nil => exact .nil
    | row hr => exact .row (l := []) hr
  | cons a m =>
    rw [hq] at H
    generalize hxs : (a :: m).map PV.str = xs at H
    cases H with
    | nil => cases hxs
    | @row i g xs hr =>
      subst hxs
      rw [List.length_map]
      exact .row hr
theorem Acc.row_of {h e v} {l : List (List UInt8)} (H : Acc h e 1 v (l.map .str)) (hl : l ≠ []) : ∃ i g, v = .sl i g 1 0 l.length ∧ hget h i = .row e 1 (l.map .str) false g := by
  generalize hxs : l.map PV.str = xs at H
  cases H with
  | nil => exact (hl (List.map_eq_nil_iff.1 hxs)).elim
  | @row i g xs hr =>
    subst hxs
    exact ⟨i, g, by rw [List.length_map], hr⟩
theorem decode9 {o : Orc} (ho : Free o) (s : List UInt8) (hs : s.length < 1000000) : Ct cx o (.fn 9 [.p (.str s)]) [] (DecP s) := by
  refine ct9 (ho _ _ _ (by decide)) rfl ?_
  by_cases h64 : (64 : Int) < (s.length : Int)
  · simp only [sc9, sc9r0, sc9r1, sc9r2, u3, u4, u5, u9, u22, u25, u130, s3, s4, s5, s9, s22, s25, s29, s34, s130, a3, a4, a5, a9, a22, a25, a29, a34, a130, ↓xC_skip, ↓xC_reg, ↓xC_seq, ↓seqP_n, ↓seqP_ret, ↓seqP_pan, ↓seqP_exit, ↓xC_cond, ↓condW_true, ↓condW_false, ↓xC_block, ↓blockP_n, ↓blockP_ret, ↓blockP_pan, ↓blockP_exit, ↓loopP_n, ↓loopP_ret, ↓loopP_pan, ↓loopP_exit, ↓xC_exit, ↓xC_ret, ↓xOps_nil, ↓xOps_cons, ↓xOps_guard, ↓gW_tt, ↓gW_tf, ↓gW_ft, ↓gW_ff, ↓gW_un, ↓opW_w, ↓opW_ws, ↓opW_wn, ↓opW_wh, ↓opW_value, ↓opW_panic, put_some, put_none, target_fn, ev_tmp, ev_func, ev_int, ev_bool, ev_str, ev_nils, ev_nilp, ev_nili, ev_nilf, evs_nil, evs_cons, evp_nil, evp_cons, evo_none, evo_some, opD_move, opD_assign, opD_pick, pickW_true, pickW_false, pickW_bool, opD_bin, opD_not, opD_conv, opD_load, opD_store, opD_indexAddr, opD_index, opD_fieldAddr, opD_field, opD_extract, opD_len', len_str, len_nils, len_vec, len_sl, opD_alloc, opD_append', opD_buildSlice, opD_build, opD_slice', ofO_some, lss_i, leq_i, gtr_i, geq_i, eql_i, neq_i, add_i, sub_i, mul_i, not_b, eql_s, neq_s, lss_s, leq_s, end_ret, end_n, end_pan, Tm.get_set, argT, Nat.reduceEqDiff, Nat.reduceAdd, if_true, if_false, cond_true, cond_false, Bool.true_eq_false, Bool.false_eq_true, Bool.not_true, Bool.not_false, reduceCtorEq, List.toList_toArray, Nat.reduceLT, results?, vals, ite_true, ite_false, h64, decide_true]
    exact .inl ⟨by unfold decR; rw [if_pos (by omega)], rfl⟩
  · simp only [sc9, sc9r0, sc9r1, sc9r2, sc9r3, u3, u4, u5, u9, u22, u25, u130, s3, s4, s5, s9, s22, s25, s29, s34, s130, a3, a4, a5, a9, a22, a25, a29, a34, a130, ↓xC_skip, ↓xC_reg, ↓xC_seq, ↓seqP_n, ↓seqP_ret, ↓seqP_pan, ↓seqP_exit, ↓xC_cond, ↓condW_true, ↓condW_false, ↓xC_block, ↓blockP_n, ↓blockP_ret, ↓blockP_pan, ↓blockP_exit, ↓loopP_n, ↓loopP_ret, ↓loopP_pan, ↓loopP_exit, ↓xC_exit, ↓xC_ret, ↓xOps_nil, ↓xOps_cons, ↓xOps_guard, ↓gW_tt, ↓gW_tf, ↓gW_ft, ↓gW_ff, ↓gW_un, ↓opW_w, ↓opW_ws, ↓opW_wn, ↓opW_wh, ↓opW_value, ↓opW_panic, put_some, put_none, target_fn, ev_tmp, ev_func, ev_int, ev_bool, ev_str, ev_nils, ev_nilp, ev_nili, ev_nilf, evs_nil, evs_cons, evp_nil, evp_cons, evo_none, evo_some, opD_move, opD_assign, opD_pick, pickW_true, pickW_false, pickW_bool, opD_bin, opD_not, opD_conv, opD_load, opD_store, opD_indexAddr, opD_index, opD_fieldAddr, opD_field, opD_extract, opD_len', len_str, len_nils, len_vec, len_sl, opD_alloc, opD_append', opD_buildSlice, opD_build, opD_slice', ofO_some, lss_i, leq_i, gtr_i, geq_i, eql_i, neq_i, add_i, sub_i, mul_i, not_b, eql_s, neq_s, lss_s, leq_s, end_ret, end_n, end_pan, Tm.get_set, argT, Nat.reduceEqDiff, Nat.reduceAdd, if_true, if_false, cond_true, cond_false, Bool.true_eq_false, Bool.false_eq_true, Bool.not_true, Bool.not_false, reduceCtorEq, List.toList_toArray, Nat.reduceLT, results?, vals, ite_true, ite_false, h64, decide_false]
    refine xC_loop (fun n t h' d r => ∃ l s' b, n = s'.length ∧ s'.length + l.length ≤ 64 ∧ d = [] ∧ r = none ∧ t.get 0 = .p (.str s') ∧ t.get 4 = b ∧ Acc h' 9 1 b (l.map .str) ∧ parse s = (parse s').map (l ++ ·)) s.length ?_ ?_
    · refine ⟨[], s, .p .nils, rfl, by simp; omega, rfl, rfl, ?_⟩
      simp only [↓xC_skip, ↓xC_reg, ↓xC_seq, ↓seqP_n, ↓seqP_ret, ↓seqP_pan, ↓seqP_exit, ↓xC_cond, ↓condW_true, ↓condW_false, ↓xC_block, ↓blockP_n, ↓blockP_ret, ↓blockP_pan, ↓blockP_exit, ↓loopP_n, ↓loopP_ret, ↓loopP_pan, ↓loopP_exit, ↓xC_exit, ↓xC_ret, ↓xOps_nil, ↓xOps_cons, ↓xOps_guard, ↓gW_tt, ↓gW_tf, ↓gW_ft, ↓gW_ff, ↓gW_un, ↓opW_w, ↓opW_ws, ↓opW_wn, ↓opW_wh, ↓opW_value, ↓opW_panic, put_some, put_none, target_fn, ev_tmp, ev_func, ev_int, ev_bool, ev_str, ev_nils, ev_nilp, ev_nili, ev_nilf, evs_nil, evs_cons, evp_nil, evp_cons, evo_none, evo_some, opD_move, opD_assign, opD_pick, pickW_true, pickW_false, pickW_bool, opD_bin, opD_not, opD_conv, opD_load, opD_store, opD_indexAddr, opD_index, opD_fieldAddr, opD_field, opD_extract, opD_len', len_str, len_nils, len_vec, len_sl, opD_alloc, opD_append', opD_buildSlice, opD_build, opD_slice', ofO_some, lss_i, leq_i, gtr_i, geq_i, eql_i, neq_i, add_i, sub_i, mul_i, not_b, eql_s, neq_s, lss_s, leq_s, end_ret, end_n, end_pan, Tm.get_set, argT, Nat.reduceEqDiff, Nat.reduceAdd, if_true, if_false, cond_true, cond_false, Bool.true_eq_false, Bool.false_eq_true, Bool.not_true, Bool.not_false, reduceCtorEq, List.toList_toArray, Nat.reduceLT, results?, vals, ite_true, ite_false, true_and]
      exact ⟨.nil, by cases parse s <;> rfl⟩
    · rintro n t h' d r ⟨l, s', b, rfl, hlen, rfl, rfl, t0, t4, hacc, hp⟩
      by_cases hne : s' = []
      · have hpl : parse s = some l := by rw [hp, hne, parse_nil]; simp
        have hT := Acc.txts hacc
        have hd : decR s = if isSetB l then some l else none := by unfold decR; rw [if_neg (by omega), hpl]
        cases hset : isSetB l
        · simp only [sc9l9, sc9r4, sc9r5, sc9r6, sc9r7, sc9r10, sc9r11, sc9r12, u3, u4, u5, u9, u22, u25, u130, s3, s4, s5, s9, s22, s25, s29, s34, s130, a3, a4, a5, a9, a22, a25, a29, a34, a130, ↓xC_skip, ↓xC_reg, ↓xC_seq, ↓seqP_n, ↓seqP_ret, ↓seqP_pan, ↓seqP_exit, ↓xC_cond, ↓condW_true, ↓condW_false, ↓xC_block, ↓blockP_n, ↓blockP_ret, ↓blockP_pan, ↓blockP_exit, ↓loopP_n, ↓loopP_ret, ↓loopP_pan, ↓loopP_exit, ↓xC_exit, ↓xC_ret, ↓xOps_nil, ↓xOps_cons, ↓xOps_guard, ↓gW_tt, ↓gW_tf, ↓gW_ft, ↓gW_ff, ↓gW_un, ↓opW_w, ↓opW_ws, ↓opW_wn, ↓opW_wh, ↓opW_value, ↓opW_panic, put_some, put_none, target_fn, ev_tmp, ev_func, ev_int, ev_bool, ev_str, ev_nils, ev_nilp, ev_nili, ev_nilf, evs_nil, evs_cons, evp_nil, evp_cons, evo_none, evo_some, opD_move, opD_assign, opD_pick, pickW_true, pickW_false, pickW_bool, opD_bin, opD_not, opD_conv, opD_load, opD_store, opD_indexAddr, opD_index, opD_fieldAddr, opD_field, opD_extract, opD_len', len_str, len_nils, len_vec, len_sl, opD_alloc, opD_append', opD_buildSlice, opD_build, opD_slice', ofO_some, lss_i, leq_i, gtr_i, geq_i, eql_i, neq_i, add_i, sub_i, mul_i, not_b, eql_s, neq_s, lss_s, leq_s, end_ret, end_n, end_pan, Tm.get_set, argT, Nat.reduceEqDiff, Nat.reduceAdd, if_true, if_false, cond_true, cond_false, Bool.true_eq_false, Bool.false_eq_true, Bool.not_true, Bool.not_false, reduceCtorEq, List.toList_toArray, Nat.reduceLT, results?, vals, ite_true, ite_false, t0, t4, hne, decide_true, call32 ho hT (by omega), hset]
          exact .inl ⟨by rw [hd, hset]; rfl, rfl⟩
        · simp only [sc9l9, sc9r4, sc9r5, sc9r6, sc9r7, sc9r10, sc9r11, sc9r12, u3, u4, u5, u9, u22, u25, u130, s3, s4, s5, s9, s22, s25, s29, s34, s130, a3, a4, a5, a9, a22, a25, a29, a34, a130, ↓xC_skip, ↓xC_reg, ↓xC_seq, ↓seqP_n, ↓seqP_ret, ↓seqP_pan, ↓seqP_exit, ↓xC_cond, ↓condW_true, ↓condW_false, ↓xC_block, ↓blockP_n, ↓blockP_ret, ↓blockP_pan, ↓blockP_exit, ↓loopP_n, ↓loopP_ret, ↓loopP_pan, ↓loopP_exit, ↓xC_exit, ↓xC_ret, ↓xOps_nil, ↓xOps_cons, ↓xOps_guard, ↓gW_tt, ↓gW_tf, ↓gW_ft, ↓gW_ff, ↓gW_un, ↓opW_w, ↓opW_ws, ↓opW_wn, ↓opW_wh, ↓opW_value, ↓opW_panic, put_some, put_none, target_fn, ev_tmp, ev_func, ev_int, ev_bool, ev_str, ev_nils, ev_nilp, ev_nili, ev_nilf, evs_nil, evs_cons, evp_nil, evp_cons, evo_none, evo_some, opD_move, opD_assign, opD_pick, pickW_true, pickW_false, pickW_bool, opD_bin, opD_not, opD_conv, opD_load, opD_store, opD_indexAddr, opD_index, opD_fieldAddr, opD_field, opD_extract, opD_len', len_str, len_nils, len_vec, len_sl, opD_alloc, opD_append', opD_buildSlice, opD_build, opD_slice', ofO_some, lss_i, leq_i, gtr_i, geq_i, eql_i, neq_i, add_i, sub_i, mul_i, not_b, eql_s, neq_s, lss_s, leq_s, end_ret, end_n, end_pan, Tm.get_set, argT, Nat.reduceEqDiff, Nat.reduceAdd, if_true, if_false, cond_true, cond_false, Bool.true_eq_false, Bool.false_eq_true, Bool.not_true, Bool.not_false, reduceCtorEq, List.toList_toArray, Nat.reduceLT, results?, vals, ite_true, ite_false, t0, t4, hne, decide_true, call32 ho hT (by omega), hset]
          have hl0 : l ≠ [] := by
            rintro rfl
            unfold isSetB at hset; simp at hset
          obtain ⟨i, g, rfl, hr⟩ := Acc.row_of hacc hl0
          exact .inr ⟨l, i, g, by rw [hd, hset]; rfl, rfl, hr⟩
      · have hpos : 0 < s'.length := by cases s' with | nil => exact (hne rfl).elim | cons a l => simp
        have hix := index_str (c := cx) (ty := 9) (s := s') (i := 0) (j := .i64) u9 (by decide) (by omega)
        have hcv : ∀ hh, conv3 cx hh 5 3 (.p (.int .u8 (s'.getD 0 0).toNat)) = .w (.p (.int .i64 (s'.getD 0 0).toNat)) := fun hh => by
          have h8 : (s'.getD 0 0).toNat < 256 := UInt8.toNat_lt _
          rw [conv_int u5 u3, wrap64_id (by omega) (by omega)]
        have hw : IntKind.wrap .i64 ((s'.length : Int) - 1) = (s'.length : Int) - 1 := by rw [wrap64_id (by omega) (by omega)]
        have hat := parse_at hpos
        by_cases hbig : (s'.length : Int) - 1 < ((s'.getD 0 0).toNat : Int)
        · simp only [sc9l9, sc9r4, sc9r5, sc9r6, sc9r7, u3, u4, u5, u9, u22, u25, u130, s3, s4, s5, s9, s22, s25, s29, s34, s130, a3, a4, a5, a9, a22, a25, a29, a34, a130, ↓xC_skip, ↓xC_reg, ↓xC_seq, ↓seqP_n, ↓seqP_ret, ↓seqP_pan, ↓seqP_exit, ↓xC_cond, ↓condW_true, ↓condW_false, ↓xC_block, ↓blockP_n, ↓blockP_ret, ↓blockP_pan, ↓blockP_exit, ↓loopP_n, ↓loopP_ret, ↓loopP_pan, ↓loopP_exit, ↓xC_exit, ↓xC_ret, ↓xOps_nil, ↓xOps_cons, ↓xOps_guard, ↓gW_tt, ↓gW_tf, ↓gW_ft, ↓gW_ff, ↓gW_un, ↓opW_w, ↓opW_ws, ↓opW_wn, ↓opW_wh, ↓opW_value, ↓opW_panic, put_some, put_none, target_fn, ev_tmp, ev_func, ev_int, ev_bool, ev_str, ev_nils, ev_nilp, ev_nili, ev_nilf, evs_nil, evs_cons, evp_nil, evp_cons, evo_none, evo_some, opD_move, opD_assign, opD_pick, pickW_true, pickW_false, pickW_bool, opD_bin, opD_not, opD_conv, opD_load, opD_store, opD_indexAddr, opD_index, opD_fieldAddr, opD_field, opD_extract, opD_len', len_str, len_nils, len_vec, len_sl, opD_alloc, opD_append', opD_buildSlice, opD_build, opD_slice', ofO_some, lss_i, leq_i, gtr_i, geq_i, eql_i, neq_i, add_i, sub_i, mul_i, not_b, eql_s, neq_s, lss_s, leq_s, end_ret, end_n, end_pan, Tm.get_set, argT, Nat.reduceEqDiff, Nat.reduceAdd, if_true, if_false, cond_true, cond_false, Bool.true_eq_false, Bool.false_eq_true, Bool.not_true, Bool.not_false, reduceCtorEq, List.toList_toArray, Nat.reduceLT, results?, vals, ite_true, ite_false, t0, t4, hne, decide_false, hix, hcv, Int.toNat_zero, hw, hbig, decide_true]
          refine .inl ⟨?_, rfl⟩
          unfold decR
          rw [if_neg (by omega), hp, hat, if_neg (by omega)]; rfl
        · have hw2 : IntKind.wrap .i64 (1 + ((s'.getD 0 0).toNat : Int)) = 1 + ((s'.getD 0 0).toNat : Int) := by
            have h8 : (s'.getD 0 0).toNat < 256 := UInt8.toNat_lt _
            rw [wrap64_id (by omega) (by omega)]
          have hn1 : ((1 : Int) + ((s'.getD 0 0).toNat : Int)).toNat = 1 + (s'.getD 0 0).toNat := by omega
          have hs1 : ∀ hh, sliceW cx hh 9 (.p (.str s')) (some (.p (.int .i64 1))) (some (.p (.int .i64 (1 + ((s'.getD 0 0).toNat : Int))))) = .w (.p (.str ((s'.take (1 + (s'.getD 0 0).toNat)).drop 1))) := fun hh => by
            rw [slice_str' u9 (bnd_some (by omega) (by omega)) (bnd_some (by omega) (by omega)), hn1]; rfl
          have hs2 : ∀ hh, sliceW cx hh 9 (.p (.str s')) (some (.p (.int .i64 (1 + ((s'.getD 0 0).toNat : Int))))) none = .w (.p (.str (s'.drop (1 + (s'.getD 0 0).toNat)))) := fun hh => by
            rw [slice_str' u9 bnd_none (bnd_some (by omega) (by omega)), hn1, List.take_length]
          have hb := build1 (h := h') (v := .str ((s'.take (1 + (s'.getD 0 0).toNat)).drop 1)) u22 s9 a9 z9 rfl rfl rfl
          obtain ⟨b1, h2, hacc2, hlen2, hkeep2, hid2, hop1⟩ := app_acc (o := o) (rd := none) (hacc.ext (h' := h' ++ [.row 9 1 [.str ((s'.take (1 + (s'.getD 0 0).toNat)).drop 1)] true 0]) fun j hj => hget_app _ _ _ hj) s9 (by decide)
            (x := .sl h'.length 0 1 0 1) (elems_sl1 (xs := [.str ((s'.take (1 + (s'.getD 0 0).toNat)).drop 1)]) (hget_new _ _)) rfl (by simp) (room_le room9 (by simp only [List.length_map, List.length_cons, List.length_nil]; omega))
          simp only [sc9l9, sc9r4, sc9r5, sc9r6, sc9r7, sc9d8_x, sc9r8, u3, u4, u5, u9, u22, u25, u130, s3, s4, s5, s9, s22, s25, s29, s34, s130, a3, a4, a5, a9, a22, a25, a29, a34, a130, ↓xC_skip, ↓xC_reg, ↓xC_seq, ↓seqP_n, ↓seqP_ret, ↓seqP_pan, ↓seqP_exit, ↓xC_cond, ↓condW_true, ↓condW_false, ↓xC_block, ↓blockP_n, ↓blockP_ret, ↓blockP_pan, ↓blockP_exit, ↓loopP_n, ↓loopP_ret, ↓loopP_pan, ↓loopP_exit, ↓xC_exit, ↓xC_ret, ↓xOps_nil, ↓xOps_cons, ↓xOps_guard, ↓gW_tt, ↓gW_tf, ↓gW_ft, ↓gW_ff, ↓gW_un, ↓opW_w, ↓opW_ws, ↓opW_wn, ↓opW_wh, ↓opW_value, ↓opW_panic, put_some, put_none, target_fn, ev_tmp, ev_func, ev_int, ev_bool, ev_str, ev_nils, ev_nilp, ev_nili, ev_nilf, evs_nil, evs_cons, evp_nil, evp_cons, evo_none, evo_some, opD_move, opD_assign, opD_pick, pickW_true, pickW_false, pickW_bool, opD_bin, opD_not, opD_conv, opD_load, opD_store, opD_indexAddr, opD_index, opD_fieldAddr, opD_field, opD_extract, opD_len', len_str, len_nils, len_vec, len_sl, opD_alloc, opD_append', opD_buildSlice, opD_build, opD_slice', ofO_some, lss_i, leq_i, gtr_i, geq_i, eql_i, neq_i, add_i, sub_i, mul_i, not_b, eql_s, neq_s, lss_s, leq_s, end_ret, end_n, end_pan, Tm.get_set, argT, Nat.reduceEqDiff, Nat.reduceAdd, if_true, if_false, cond_true, cond_false, Bool.true_eq_false, Bool.false_eq_true, Bool.not_true, Bool.not_false, reduceCtorEq, List.toList_toArray, Nat.reduceLT, results?, vals, ite_true, ite_false, ↓xDraw_nil, ↓xDraw_L, ↓xDraw_A, ↓LW_some, ↓x1_none, ↓x1_guard, blur_nil, blur_cons, slotV_some, toO_w, look_none, look_guard, ↓gL_tt, ↓gL_tf, ↓gL_ft, ↓gL_ff, ↓gL_un, looksSame_nil, looksSame_cons, pendOk_nil, pendOk_cons, List.drop_succ_cons, List.drop_zero, List.take_succ_cons, List.take_zero, List.drop_nil, List.take_nil, Nat.reduceSub, Nat.reduceLeDiff, Nat.lt_irrefl, Nat.sub_self, Nat.sub_zero, Nat.zero_sub, true_and, Bool.and_true, Bool.and_self, Nat.zero_lt_one, Nat.not_lt_zero, Nat.le_refl, Nat.zero_le, Nat.zero_add, t0, t4, hne, decide_false, hix, hcv, Int.toNat_zero, hw, hbig, hw2, hs1, hs2, hb, appW_sl u22 u22, hop1]
          refine ⟨_, ?_, l ++ [(s'.take (1 + (s'.getD 0 0).toNat)).drop 1], s'.drop (1 + (s'.getD 0 0).toNat), b1, rfl, ?_, rfl, rfl, ?_, ?_⟩
          · rw [List.length_drop]; omega
          · rw [List.length_drop, List.length_append, List.length_singleton]; omega
          · rw [List.map_append]; exact hacc2
          · rw [hp, hat, if_pos (by omega)]
            cases parse (s'.drop (1 + (s'.getD 0 0).toNat)) with
            | none => rfl
            | some m => simp

theorem z34 : zero? cx 34 = some (.agg [.nils, .int .i64 0]) := by kernel_rfl
theorem b34_1 (n : Int) : build? cx 34 [(1, .p (.int .i64 n))] = some (.p (.agg [.nils, .int .i64 n])) := by kernel_rfl
theorem b34_0 (i g n : Nat) : build? cx 34 [(0, .sl i g 1 0 n)] = some (.agg [.sl i g 1 0 n, .p (.int .i64 0)]) := by kernel_rfl
theorem b34_n : build? cx 34 [(0, .p .nils)] = some (.p (.agg [.nils, .int .i64 0])) := by kernel_rfl

theorem encB_parse : ∀ (n : Nat) (s : List UInt8), s.length = n → ∀ l, parse s = some l → encB l = s ∧ l.length ≤ s.length ∧ ∀ i, (l.getD i []).length ≤ s.length := by
  intro n
  induction n using Nat.strongRecOn with
  | _ n ih =>
    intro s hn l hp
    cases s with
    | nil => rw [parse_nil] at hp; injection hp with hp; subst hp; exact ⟨rfl, Nat.le_refl _, fun i => by simp⟩
    | cons b r =>
      rw [parse_cons] at hp
      by_cases hb : b.toNat ≤ r.length
      · rw [if_pos hb] at hp
        cases hq : parse (r.drop b.toNat) with
        | none => rw [hq] at hp; cases hp
        | some m =>
          rw [hq] at hp
          have : r.take b.toNat :: m = l := Option.some.inj hp
          subst this
          have hl : (r.drop b.toNat).length < n := by rw [List.length_drop, ← hn, List.length_cons]; omega
          obtain ⟨h1, h2, h3⟩ := ih _ hl _ rfl m hq
          refine ⟨?_, ?_, ?_⟩
          · show UInt8.ofNat (r.take b.toNat).length :: r.take b.toNat ++ encB m = b :: r
            rw [h1, List.length_take, Nat.min_eq_left hb, UInt8.ofNat_toNat, List.cons_append, List.take_append_drop]
          · rw [List.length_drop] at h2
            simp only [List.length_cons]; omega
          · intro i
            cases i with
            | zero => simp only [List.getD_cons_zero, List.length_take, List.length_cons]; omega
            | succ i =>
              have := h3 i
              rw [List.length_drop] at this
              simp only [List.getD_cons_succ, List.length_cons]; omega
      · rw [if_neg hb] at hp; cases hp
end Go.Proofs
set_option maxRecDepth 100000
namespace Go.Proofs
open Go Go.Ai

theorem call8 {o : Orc} (ho : Free o) {v h l dst t d r k Q} (H : Txts h v l) (hl : l.length < 900000) (hs : ∀ i, (l.getD i []).length ≤ 1000) : callW cx o dst t h d r (some (.fn 8 [v])) k Q = k (put dst (.p (.agg [.str (encR l).1, .int .i64 (encR l).2])) t) h d r :=
  callW_ret ext8 (cs_txts H rfl fun v0 h0 H0 => encode8 ho H0 hl hs)

def Dec10 (s : List UInt8) (e : AEnd) (h' : List Ob) : Prop :=
  (decR s = none ∧ e = .ret (.p (.agg [.nils, .int .i64 2]))) ∨
  ∃ l i g, decR s = some l ∧ e = .ret (.agg [.sl i g 1 0 l.length, .p (.int .i64 0)]) ∧ hget h' i = .row 9 1 (l.map .str) false g

theorem drop_getD (s : List UInt8) (a : Nat) : (s.drop a).getD 0 0 = s.getD a 0 := by simp [List.getD]
theorem ct0 : (AV.p (.agg [.nils, .int .i64 2])).cells? = some [.p .nils, .p (.int .i64 2)] := rfl

theorem decode10 {o : Orc} (ho : Free o) (s : List UInt8) (hs : s.length ≤ 1000) : Ct cx o (.fn 10 [.p (.str s)]) [] (Dec10 s) := by
  refine ct10 (ho _ _ _ (by decide)) rfl ?_
  simp only [sc10, sc10r0, sc10r1, sc10r2, u3, u4, u5, u9, u22, u25, u130, s3, s4, s5, s9, s22, s25, s29, s34, s130, a3, a4, a5, a9, a22, a25, a29, a34, a130, ↓xC_skip, ↓xC_reg, ↓xC_seq, ↓seqP_n, ↓seqP_ret, ↓seqP_pan, ↓seqP_exit, ↓xC_cond, ↓condW_true, ↓condW_false, ↓xC_block, ↓blockP_n, ↓blockP_ret, ↓blockP_pan, ↓blockP_exit, ↓loopP_n, ↓loopP_ret, ↓loopP_pan, ↓loopP_exit, ↓xC_exit, ↓xC_ret, ↓xOps_nil, ↓xOps_cons, ↓xOps_guard, ↓gW_tt, ↓gW_tf, ↓gW_ft, ↓gW_ff, ↓gW_un, ↓opW_w, ↓opW_ws, ↓opW_wn, ↓opW_wh, ↓opW_value, ↓opW_panic, put_some, put_none, target_fn, ev_tmp, ev_func, ev_int, ev_bool, ev_str, ev_nils, ev_nilp, ev_nili, ev_nilf, evs_nil, evs_cons, evp_nil, evp_cons, evo_none, evo_some, opD_move, opD_assign, opD_pick, pickW_true, pickW_false, pickW_bool, opD_bin, opD_not, opD_conv, opD_load, opD_store, opD_indexAddr, opD_index, opD_fieldAddr, opD_field, opD_extract, opD_len', len_str, len_nils, len_vec, len_sl, opD_alloc, opD_append', opD_buildSlice, opD_build, opD_slice', ofO_some, lss_i, leq_i, gtr_i, geq_i, eql_i, neq_i, add_i, sub_i, mul_i, not_b, eql_s, neq_s, lss_s, leq_s, end_ret, end_n, end_pan, Tm.get_set, argT, Nat.reduceEqDiff, Nat.reduceAdd, if_true, if_false, cond_true, cond_false, Bool.true_eq_false, Bool.false_eq_true, Bool.not_true, Bool.not_false, reduceCtorEq, List.toList_toArray, Nat.reduceLT, results?, vals, ite_true, ite_false, z34, PV.cells, List.map_cons, List.map_nil, List.nil_append, List.length_nil]
  refine xC_loop (fun n t h' d r => ∃ l a b, n = s.length - a ∧ a ≤ s.length ∧ l.length ≤ a ∧ d = [] ∧ r = none ∧ t.get 0 = .p (.str s) ∧ t.get 2 = .ptr 0 0 ∧ t.get 3 = b ∧ t.get 4 = .p (.int .i64 (a : Nat)) ∧ hget h' 0 = .cells 34 [.p .nils, .p (.int .i64 0)] ∧ Acc h' 9 1 b (l.map .str) ∧ parse s = (parse (s.drop a)).map (l ++ ·)) s.length ?_ ?_
  · refine ⟨[], 0, .p .nils, rfl, by omega, by simp, rfl, rfl, ?_⟩
    simp only [↓xC_skip, ↓xC_reg, ↓xC_seq, ↓seqP_n, ↓seqP_ret, ↓seqP_pan, ↓seqP_exit, ↓xC_cond, ↓condW_true, ↓condW_false, ↓xC_block, ↓blockP_n, ↓blockP_ret, ↓blockP_pan, ↓blockP_exit, ↓loopP_n, ↓loopP_ret, ↓loopP_pan, ↓loopP_exit, ↓xC_exit, ↓xC_ret, ↓xOps_nil, ↓xOps_cons, ↓xOps_guard, ↓gW_tt, ↓gW_tf, ↓gW_ft, ↓gW_ff, ↓gW_un, ↓opW_w, ↓opW_ws, ↓opW_wn, ↓opW_wh, ↓opW_value, ↓opW_panic, put_some, put_none, target_fn, ev_tmp, ev_func, ev_int, ev_bool, ev_str, ev_nils, ev_nilp, ev_nili, ev_nilf, evs_nil, evs_cons, evp_nil, evp_cons, evo_none, evo_some, opD_move, opD_assign, opD_pick, pickW_true, pickW_false, pickW_bool, opD_bin, opD_not, opD_conv, opD_load, opD_store, opD_indexAddr, opD_index, opD_fieldAddr, opD_field, opD_extract, opD_len', len_str, len_nils, len_vec, len_sl, opD_alloc, opD_append', opD_buildSlice, opD_build, opD_slice', ofO_some, lss_i, leq_i, gtr_i, geq_i, eql_i, neq_i, add_i, sub_i, mul_i, not_b, eql_s, neq_s, lss_s, leq_s, end_ret, end_n, end_pan, Tm.get_set, argT, Nat.reduceEqDiff, Nat.reduceAdd, if_true, if_false, cond_true, cond_false, Bool.true_eq_false, Bool.false_eq_true, Bool.not_true, Bool.not_false, reduceCtorEq, List.toList_toArray, Nat.reduceLT, results?, vals, ite_true, ite_false, true_and]
    exact ⟨rfl, rfl, .nil, by rw [List.drop_zero]; cases parse s <;> rfl⟩
  · rintro n t h' d r ⟨l, a, b, rfl, ha, hla, rfl, rfl, t0, t2, t3, t4, hc0, hacc, hp⟩
    have h0l : 0 < h'.length := by
      rw [hget_eq] at hc0
      by_cases q : 0 < h'.length
      · exact q
      · rw [List.getElem?_eq_none (by omega)] at hc0; cases hc0
    by_cases hlt : (a : Int) < (s.length : Int)
    · have hpos : 0 < (s.drop a).length := by rw [List.length_drop]; omega
      have hix := index_str (c := cx) (ty := 9) (s := s) (i := (a : Int)) (j := .i64) u9 (Int.natCast_nonneg a) hlt
      have h8 : (s.getD a 0).toNat < 256 := UInt8.toNat_lt _
      have hcv : ∀ hh, conv3 cx hh 5 3 (.p (.int .u8 (s.getD a 0).toNat)) = .w (.p (.int .i64 (s.getD a 0).toNat)) := fun hh => by
        rw [conv_int u5 u3, wrap64_id (by omega) (by omega)]
      have hw1 : IntKind.wrap .i64 ((a : Int) + 1) = ((a + 1 : Nat) : Int) := by rw [wrap64_id (by omega) (by omega)]; omega
      have hw2 : IntKind.wrap .i64 (((a + 1 : Nat) : Int) + ((s.getD a 0).toNat : Int)) = ((a + 1 + (s.getD a 0).toNat : Nat) : Int) := by rw [wrap64_id (by omega) (by omega)]; omega
      have hat := parse_at hpos
      rw [drop_getD, List.length_drop] at hat
      by_cases hbig : (s.length : Int) < ((a + 1 + (s.getD a 0).toNat : Nat) : Int)
      · have st := store_whole (c := cx) (h := h') (ty := 34) s34 hc0 ct0 rfl rfl
        have ld : load? cx (hset h' 0 (.cells 34 [.p .nils, .p (.int .i64 2)])) 34 (.ptr 0 0) = some (.p (.agg [.nils, .int .i64 2])) :=
          (load_whole a34 s34 (cs := [PV.nils, PV.int .i64 2].map .p) (by rw [hget_hset _ _ _ _ h0l, if_pos rfl]; rfl) rfl).trans (congrArg some (mkAgg_p [.nils, .int .i64 2]))
        simp only [sc10l9, sc10r3, sc10r4, sc10r5, sc10r6, u3, u4, u5, u9, u22, u25, u130, s3, s4, s5, s9, s22, s25, s29, s34, s130, a3, a4, a5, a9, a22, a25, a29, a34, a130, ↓xC_skip, ↓xC_reg, ↓xC_seq, ↓seqP_n, ↓seqP_ret, ↓seqP_pan, ↓seqP_exit, ↓xC_cond, ↓condW_true, ↓condW_false, ↓xC_block, ↓blockP_n, ↓blockP_ret, ↓blockP_pan, ↓blockP_exit, ↓loopP_n, ↓loopP_ret, ↓loopP_pan, ↓loopP_exit, ↓xC_exit, ↓xC_ret, ↓xOps_nil, ↓xOps_cons, ↓xOps_guard, ↓gW_tt, ↓gW_tf, ↓gW_ft, ↓gW_ff, ↓gW_un, ↓opW_w, ↓opW_ws, ↓opW_wn, ↓opW_wh, ↓opW_value, ↓opW_panic, put_some, put_none, target_fn, ev_tmp, ev_func, ev_int, ev_bool, ev_str, ev_nils, ev_nilp, ev_nili, ev_nilf, evs_nil, evs_cons, evp_nil, evp_cons, evo_none, evo_some, opD_move, opD_assign, opD_pick, pickW_true, pickW_false, pickW_bool, opD_bin, opD_not, opD_conv, opD_load, opD_store, opD_indexAddr, opD_index, opD_fieldAddr, opD_field, opD_extract, opD_len', len_str, len_nils, len_vec, len_sl, opD_alloc, opD_append', opD_buildSlice, opD_build, opD_slice', ofO_some, lss_i, leq_i, gtr_i, geq_i, eql_i, neq_i, add_i, sub_i, mul_i, not_b, eql_s, neq_s, lss_s, leq_s, end_ret, end_n, end_pan, Tm.get_set, argT, Nat.reduceEqDiff, Nat.reduceAdd, if_true, if_false, cond_true, cond_false, Bool.true_eq_false, Bool.false_eq_true, Bool.not_true, Bool.not_false, reduceCtorEq, List.toList_toArray, Nat.reduceLT, results?, vals, ite_true, ite_false, t0, t2, t3, t4, hlt, decide_true, hix, Int.toNat_natCast, hcv, hw1, hw2, hbig, b34_1, st, ld]
        refine .inl ⟨?_, rfl⟩
        have hn : parse s = none := by rw [hp, hat, if_neg (by omega)]; rfl
        unfold decR
        rw [hn]; split <;> rfl
      · have hs1 : ∀ hh, sliceW cx hh 9 (.p (.str s)) (some (.p (.int .i64 ((a + 1 : Nat) : Int)))) (some (.p (.int .i64 ((a + 1 + (s.getD a 0).toNat : Nat) : Int)))) = .w (.p (.str ((s.take (a + 1 + (s.getD a 0).toNat)).drop (a + 1)))) := fun hh => by
          rw [slice_str' u9 (bnd_some (by omega) (by omega)) (bnd_some (by omega) (by omega)), Int.toNat_natCast, Int.toNat_natCast]
        have hb := build1 (h := h') (v := .str ((s.take (a + 1 + (s.getD a 0).toNat)).drop (a + 1))) u22 s9 a9 z9 rfl rfl rfl
        obtain ⟨b1, h2, hacc2, hlen2, hkeep2, hid2, hop1⟩ := app_acc (o := o) (rd := none) (hacc.ext (h' := h' ++ [.row 9 1 [.str ((s.take (a + 1 + (s.getD a 0).toNat)).drop (a + 1))] true 0]) fun j hj => hget_app _ _ _ hj) s9 (by decide)
          (x := .sl h'.length 0 1 0 1) (elems_sl1 (xs := [.str ((s.take (a + 1 + (s.getD a 0).toNat)).drop (a + 1))]) (hget_new _ _)) rfl (by simp) (room_le room9 (by simp only [List.length_map, List.length_cons, List.length_nil]; omega))
        simp only [sc10l9, sc10r3, sc10r4, sc10r5, sc10r6, sc10r7, sc10r8, u3, u4, u5, u9, u22, u25, u130, s3, s4, s5, s9, s22, s25, s29, s34, s130, a3, a4, a5, a9, a22, a25, a29, a34, a130, ↓xC_skip, ↓xC_reg, ↓xC_seq, ↓seqP_n, ↓seqP_ret, ↓seqP_pan, ↓seqP_exit, ↓xC_cond, ↓condW_true, ↓condW_false, ↓xC_block, ↓blockP_n, ↓blockP_ret, ↓blockP_pan, ↓blockP_exit, ↓loopP_n, ↓loopP_ret, ↓loopP_pan, ↓loopP_exit, ↓xC_exit, ↓xC_ret, ↓xOps_nil, ↓xOps_cons, ↓xOps_guard, ↓gW_tt, ↓gW_tf, ↓gW_ft, ↓gW_ff, ↓gW_un, ↓opW_w, ↓opW_ws, ↓opW_wn, ↓opW_wh, ↓opW_value, ↓opW_panic, put_some, put_none, target_fn, ev_tmp, ev_func, ev_int, ev_bool, ev_str, ev_nils, ev_nilp, ev_nili, ev_nilf, evs_nil, evs_cons, evp_nil, evp_cons, evo_none, evo_some, opD_move, opD_assign, opD_pick, pickW_true, pickW_false, pickW_bool, opD_bin, opD_not, opD_conv, opD_load, opD_store, opD_indexAddr, opD_index, opD_fieldAddr, opD_field, opD_extract, opD_len', len_str, len_nils, len_vec, len_sl, opD_alloc, opD_append', opD_buildSlice, opD_build, opD_slice', ofO_some, lss_i, leq_i, gtr_i, geq_i, eql_i, neq_i, add_i, sub_i, mul_i, not_b, eql_s, neq_s, lss_s, leq_s, end_ret, end_n, end_pan, Tm.get_set, argT, Nat.reduceEqDiff, Nat.reduceAdd, if_true, if_false, cond_true, cond_false, Bool.true_eq_false, Bool.false_eq_true, Bool.not_true, Bool.not_false, reduceCtorEq, List.toList_toArray, Nat.reduceLT, results?, vals, ite_true, ite_false, t0, t2, t3, t4, hlt, decide_true, hix, Int.toNat_natCast, hcv, hw1, hw2, hbig, decide_false, hs1, hb, appW_sl u22 u22, hop1, true_and]
        refine ⟨_, ?_, l ++ [(s.take (a + 1 + (s.getD a 0).toNat)).drop (a + 1)], a + 1 + (s.getD a 0).toNat, b1, rfl, ?_, ?_, rfl, rfl, ?_, ?_, ?_⟩
        · omega
        · omega
        · rw [List.length_append, List.length_singleton]; omega
        · rw [hkeep2 0 (by simp) (fun g oo m q => by subst q; cases hacc with | row hr => rw [hr] at hc0; cases hc0), hget_app _ _ _ h0l, hc0]
        · rw [List.map_append]; exact hacc2
        · have e1 : (s.drop a).drop (1 + (s.getD a 0).toNat) = s.drop (a + 1 + (s.getD a 0).toNat) := by rw [List.drop_drop]; congr 1; omega
          have e2 : ((s.drop a).take (1 + (s.getD a 0).toNat)).drop 1 = (s.take (a + 1 + (s.getD a 0).toNat)).drop (a + 1) := by
            rw [List.take_drop, List.drop_drop]; congr 2; omega
          rw [hp, hat, if_pos (by omega), e1, e2]
          cases parse (s.drop (a + 1 + (s.getD a 0).toNat)) with
          | none => rfl
          | some m => simp
    · have hpl : parse s = some l := by rw [hp, List.drop_of_length_le (by omega), parse_nil]; simp
      have hT := Acc.txts hacc
      obtain ⟨p1, p2, p3⟩ := encB_parse _ s rfl l hpl
      have st29 : ∀ x y : PV, store? cx (h' ++ [.cells 29 [.p (.str []), .p (.int .i64 0)]]) 29 (.ptr h'.length 0) (.p (.agg [x, y])) = .ws undefA h'.length (.cells 29 [.p x, .p y]) := fun x y => store_whole s29 (hget_new _ _) rfl rfl rfl
      have fa1 : fieldAddr? cx 29 (.ptr h'.length 0) 1 = some (.ptr h'.length 1) := fieldAddr_ptr (m := 0) f29_1 s25
      have fa0 : fieldAddr? cx 29 (.ptr h'.length 0) 0 = some (.ptr h'.length 0) := fieldAddr_ptr (m := 0) f29_0 s9
      have ld1 : ∀ x y : PV, load? cx (h' ++ [.cells 29 [.p x, .p y]]) 25 (.ptr h'.length 1) = some (.p y) := fun x y => load_one a25 (hget_new _ _) rfl
      have ld0 : ∀ x y : PV, load? cx (h' ++ [.cells 29 [.p x, .p y]]) 9 (.ptr h'.length 0) = some (.p x) := fun x y => load_one a9 (hget_new _ _) rfl
      have hc1 : ∀ x y : PV, hget (h' ++ [.cells 29 [.p x, .p y]]) 0 = .cells 34 [.p .nils, .p (.int .i64 0)] := fun x y => by rw [hget_app _ _ _ h0l, hc0]
      have stE : ∀ x y : PV, store? cx (h' ++ [.cells 29 [.p x, .p y]]) 34 (.ptr 0 0) (.p (.agg [.nils, .int .i64 2])) = .ws undefA 0 (.cells 34 [.p .nils, .p (.int .i64 2)]) := fun x y => store_whole s34 (hc1 x y) ct0 rfl rfl
      have ldE : ∀ x y : PV, load? cx (hset (h' ++ [.cells 29 [.p x, .p y]]) 0 (.cells 34 [.p .nils, .p (.int .i64 2)])) 34 (.ptr 0 0) = some (.p (.agg [.nils, .int .i64 2])) := fun x y =>
        (load_whole a34 s34 (cs := [PV.nils, PV.int .i64 2].map .p) (by rw [hget_hset _ _ _ _ (by rw [List.length_append]; omega), if_pos rfl]; rfl) rfl).trans (congrArg some (mkAgg_p [.nils, .int .i64 2]))
      have hd : decR s = if 64 < s.length then none else if isSetB l then some l else none := by unfold decR; rw [hpl]
      cases hst : isSetB l
      · have he : encR l = ([], 2) := by unfold encR; rw [hst]; rfl
        simp only [sc10l9, sc10r3, sc10r4, sc10r5, sc10r6, sc10r7, sc10r8, sc10r10, sc10r11, sc10r12, sc10r13, u3, u4, u5, u9, u22, u25, u130, s3, s4, s5, s9, s22, s25, s29, s34, s130, a3, a4, a5, a9, a22, a25, a29, a34, a130, ↓xC_skip, ↓xC_reg, ↓xC_seq, ↓seqP_n, ↓seqP_ret, ↓seqP_pan, ↓seqP_exit, ↓xC_cond, ↓condW_true, ↓condW_false, ↓xC_block, ↓blockP_n, ↓blockP_ret, ↓blockP_pan, ↓blockP_exit, ↓loopP_n, ↓loopP_ret, ↓loopP_pan, ↓loopP_exit, ↓xC_exit, ↓xC_ret, ↓xOps_nil, ↓xOps_cons, ↓xOps_guard, ↓gW_tt, ↓gW_tf, ↓gW_ft, ↓gW_ff, ↓gW_un, ↓opW_w, ↓opW_ws, ↓opW_wn, ↓opW_wh, ↓opW_value, ↓opW_panic, put_some, put_none, target_fn, ev_tmp, ev_func, ev_int, ev_bool, ev_str, ev_nils, ev_nilp, ev_nili, ev_nilf, evs_nil, evs_cons, evp_nil, evp_cons, evo_none, evo_some, opD_move, opD_assign, opD_pick, pickW_true, pickW_false, pickW_bool, opD_bin, opD_not, opD_conv, opD_load, opD_store, opD_indexAddr, opD_index, opD_fieldAddr, opD_field, opD_extract, opD_len', len_str, len_nils, len_vec, len_sl, opD_alloc, opD_append', opD_buildSlice, opD_build, opD_slice', ofO_some, lss_i, leq_i, gtr_i, geq_i, eql_i, neq_i, add_i, sub_i, mul_i, not_b, eql_s, neq_s, lss_s, leq_s, end_ret, end_n, end_pan, Tm.get_set, argT, Nat.reduceEqDiff, Nat.reduceAdd, if_true, if_false, cond_true, cond_false, Bool.true_eq_false, Bool.false_eq_true, Bool.not_true, Bool.not_false, reduceCtorEq, List.toList_toArray, Nat.reduceLT, results?, vals, ite_true, ite_false, t0, t2, t3, t4, hlt, decide_false, call8 ho hT (by omega) (fun i => Nat.le_trans (p3 i) hs), z29, PV.cells, List.map_cons, List.map_nil, he, st29, hset_new, fa1, ld1, Int.reduceEq, b34_1, stE, ldE]
        refine .inl ⟨?_, rfl⟩
        rw [hd, hst]; split <;> rfl
      · by_cases h64 : (64 : Int) < ((encB l).length : Int)
        · have he : encR l = ([], 3) := by unfold encR; rw [hst, if_pos rfl, if_pos h64]
          simp only [sc10l9, sc10r3, sc10r4, sc10r5, sc10r6, sc10r7, sc10r8, sc10r10, sc10r11, sc10r12, sc10r13, u3, u4, u5, u9, u22, u25, u130, s3, s4, s5, s9, s22, s25, s29, s34, s130, a3, a4, a5, a9, a22, a25, a29, a34, a130, ↓xC_skip, ↓xC_reg, ↓xC_seq, ↓seqP_n, ↓seqP_ret, ↓seqP_pan, ↓seqP_exit, ↓xC_cond, ↓condW_true, ↓condW_false, ↓xC_block, ↓blockP_n, ↓blockP_ret, ↓blockP_pan, ↓blockP_exit, ↓loopP_n, ↓loopP_ret, ↓loopP_pan, ↓loopP_exit, ↓xC_exit, ↓xC_ret, ↓xOps_nil, ↓xOps_cons, ↓xOps_guard, ↓gW_tt, ↓gW_tf, ↓gW_ft, ↓gW_ff, ↓gW_un, ↓opW_w, ↓opW_ws, ↓opW_wn, ↓opW_wh, ↓opW_value, ↓opW_panic, put_some, put_none, target_fn, ev_tmp, ev_func, ev_int, ev_bool, ev_str, ev_nils, ev_nilp, ev_nili, ev_nilf, evs_nil, evs_cons, evp_nil, evp_cons, evo_none, evo_some, opD_move, opD_assign, opD_pick, pickW_true, pickW_false, pickW_bool, opD_bin, opD_not, opD_conv, opD_load, opD_store, opD_indexAddr, opD_index, opD_fieldAddr, opD_field, opD_extract, opD_len', len_str, len_nils, len_vec, len_sl, opD_alloc, opD_append', opD_buildSlice, opD_build, opD_slice', ofO_some, lss_i, leq_i, gtr_i, geq_i, eql_i, neq_i, add_i, sub_i, mul_i, not_b, eql_s, neq_s, lss_s, leq_s, end_ret, end_n, end_pan, Tm.get_set, argT, Nat.reduceEqDiff, Nat.reduceAdd, if_true, if_false, cond_true, cond_false, Bool.true_eq_false, Bool.false_eq_true, Bool.not_true, Bool.not_false, reduceCtorEq, List.toList_toArray, Nat.reduceLT, results?, vals, ite_true, ite_false, t0, t2, t3, t4, hlt, decide_false, call8 ho hT (by omega) (fun i => Nat.le_trans (p3 i) hs), z29, PV.cells, List.map_cons, List.map_nil, he, st29, hset_new, fa1, ld1, Int.reduceEq, b34_1, stE, ldE]
          refine .inl ⟨?_, rfl⟩
          rw [p1] at h64
          rw [hd, if_pos (by omega)]
        · have he : encR l = (s, 0) := by unfold encR; rw [hst, if_pos rfl, if_neg h64, p1]
          have hl0 : l ≠ [] := by
            rintro rfl
            unfold isSetB at hst; simp at hst
          obtain ⟨i, g, rfl, hr⟩ := Acc.row_of hacc hl0
          have hi := hget_flat_lt (h := h') (i := i) (by rw [hr]; rfl)
          have hi0 : i ≠ 0 := by rintro rfl; rw [hr] at hc0; cases hc0
          have stO : store? cx (h' ++ [.cells 29 [.p (.str s), .p (.int .i64 0)]]) 34 (.ptr 0 0) (.agg [.sl i g 1 0 l.length, .p (.int .i64 0)]) = .ws undefA 0 (.cells 34 [.sl i g 1 0 l.length, .p (.int .i64 0)]) := store_whole s34 (hc1 _ _) rfl rfl rfl
          have ldO : load? cx (hset (h' ++ [.cells 29 [.p (.str s), .p (.int .i64 0)]]) 0 (.cells 34 [.sl i g 1 0 l.length, .p (.int .i64 0)])) 34 (.ptr 0 0) = some (.agg [.sl i g 1 0 l.length, .p (.int .i64 0)]) :=
            (load_whole a34 s34 (cs := [.sl i g 1 0 l.length, .p (.int .i64 0)]) (by rw [hget_hset _ _ _ _ (by rw [List.length_append]; omega), if_pos rfl]) rfl)
          simp only [sc10l9, sc10r3, sc10r4, sc10r5, sc10r6, sc10r7, sc10r8, sc10r10, sc10r11, sc10r12, sc10r13, u3, u4, u5, u9, u22, u25, u130, s3, s4, s5, s9, s22, s25, s29, s34, s130, a3, a4, a5, a9, a22, a25, a29, a34, a130, ↓xC_skip, ↓xC_reg, ↓xC_seq, ↓seqP_n, ↓seqP_ret, ↓seqP_pan, ↓seqP_exit, ↓xC_cond, ↓condW_true, ↓condW_false, ↓xC_block, ↓blockP_n, ↓blockP_ret, ↓blockP_pan, ↓blockP_exit, ↓loopP_n, ↓loopP_ret, ↓loopP_pan, ↓loopP_exit, ↓xC_exit, ↓xC_ret, ↓xOps_nil, ↓xOps_cons, ↓xOps_guard, ↓gW_tt, ↓gW_tf, ↓gW_ft, ↓gW_ff, ↓gW_un, ↓opW_w, ↓opW_ws, ↓opW_wn, ↓opW_wh, ↓opW_value, ↓opW_panic, put_some, put_none, target_fn, ev_tmp, ev_func, ev_int, ev_bool, ev_str, ev_nils, ev_nilp, ev_nili, ev_nilf, evs_nil, evs_cons, evp_nil, evp_cons, evo_none, evo_some, opD_move, opD_assign, opD_pick, pickW_true, pickW_false, pickW_bool, opD_bin, opD_not, opD_conv, opD_load, opD_store, opD_indexAddr, opD_index, opD_fieldAddr, opD_field, opD_extract, opD_len', len_str, len_nils, len_vec, len_sl, opD_alloc, opD_append', opD_buildSlice, opD_build, opD_slice', ofO_some, lss_i, leq_i, gtr_i, geq_i, eql_i, neq_i, add_i, sub_i, mul_i, not_b, eql_s, neq_s, lss_s, leq_s, end_ret, end_n, end_pan, Tm.get_set, argT, Nat.reduceEqDiff, Nat.reduceAdd, if_true, if_false, cond_true, cond_false, Bool.true_eq_false, Bool.false_eq_true, Bool.not_true, Bool.not_false, reduceCtorEq, List.toList_toArray, Nat.reduceLT, results?, vals, ite_true, ite_false, t0, t2, t3, t4, hlt, decide_false, call8 ho hT (by omega) (fun i => Nat.le_trans (p3 i) hs), z29, PV.cells, List.map_cons, List.map_nil, he, st29, hset_new, fa1, ld1, fa0, ld0, decide_true, b34_0, stO, ldO]
          rw [p1] at h64
          refine .inr ⟨l, i, g, ?_, rfl, ?_⟩
          · rw [hd, if_neg (by omega), hst, if_pos rfl]
          · rw [hget_hset _ _ _ _ (by rw [List.length_append]; omega), if_neg hi0, hget_app _ _ _ hi, hr]
end Go.Proofs
set_option maxRecDepth 100000
namespace Go.Proofs
open Go Go.Ai

theorem call6 {o : Orc} (h6 : Ct cx o (.fn 6 []) [] fun e _ => e = .ret (.p (.bool true))) {h dst t d r k Q} : callW cx o dst t h d r (some (.fn 6 [])) k Q = k (put dst (.p (.bool true)) t) h d r :=
  callW_ret ext6 (cs_p (f := 6) (ps := []) rfl h6)
theorem call7 {o : Orc} (ho : Free o) {v h l dst t d r k Q} (H : Txts h v l) (hl : l.length < 900000) (hs : ∀ i, (l.getD i []).length ≤ 1000) : callW cx o dst t h d r (some (.fn 7 [v])) k Q = k (put dst (.tup [.p (.str (encR l).1), .p (.int .i64 (encR l).2)]) t) h d r :=
  callW_ret ext7 (cs_txts H rfl fun v0 h0 H0 => encode7 ho H0 hl hs)

theorem call9 {o : Orc} (ho : Free o) (s : List UInt8) (hs : s.length < 1000000) (h : List Ob) :
    (decR s = none ∧ ∀ dst t d r k Q, callW cx o dst t h d r (some (.fn 9 [.p (.str s)])) k Q = k (put dst (.tup [.p .nils, .p (.int .i64 2)]) t) h d r) ∨
    ∃ l, decR s = some l ∧ ∀ dst t d r k Q, callW cx o dst t h d r (some (.fn 9 [.p (.str s)])) k Q = k (put dst (.tup [.sl h.length 0 1 0 l.length, .p (.int .i64 0)]) t) (h ++ [.row 9 1 (l.map .str) false 0]) d r := by
  obtain ⟨e, h', hrun, hP⟩ := decode9 ho s hs
  rcases hP with ⟨hd, rfl⟩ | ⟨l, i, g, hd, rfl, hr⟩
  · exact .inl ⟨hd, fun dst t d r k Q => callW_ret ext9 (cs_p (f := 9) (ps := [.str s]) rfl ⟨_, _, hrun, rfl⟩)⟩
  · refine .inr ⟨l, hd, fun dst t d r k Q => callW_ret ext9 (cs_row (f := 9) (ps := [.str s]) hr rfl (fun r hrr => ?_) hrun)⟩
    show AV.tup [renN r 5 (.sl i g 1 0 l.length), .p (.int .i64 0)] = _
    congr 2
    unfold renN
    simp only [hrr]
theorem call10 {o : Orc} (ho : Free o) (s : List UInt8) (hs : s.length ≤ 1000) (h : List Ob) :
    (decR s = none ∧ ∀ dst t d r k Q, callW cx o dst t h d r (some (.fn 10 [.p (.str s)])) k Q = k (put dst (.p (.agg [.nils, .int .i64 2])) t) h d r) ∨
    ∃ l, decR s = some l ∧ ∀ dst t d r k Q, callW cx o dst t h d r (some (.fn 10 [.p (.str s)])) k Q = k (put dst (.agg [.sl h.length 0 1 0 l.length, .p (.int .i64 0)]) t) (h ++ [.row 9 1 (l.map .str) false 0]) d r := by
  obtain ⟨e, h', hrun, hP⟩ := decode10 ho s hs
  rcases hP with ⟨hd, rfl⟩ | ⟨l, i, g, hd, rfl, hr⟩
  · exact .inl ⟨hd, fun dst t d r k Q => callW_ret ext10 (cs_p (f := 10) (ps := [.str s]) rfl ⟨_, _, hrun, rfl⟩)⟩
  · refine .inr ⟨l, hd, fun dst t d r k Q => callW_ret ext10 (cs_row (f := 10) (ps := [.str s]) hr rfl (fun r hrr => ?_) hrun)⟩
    show AV.agg [renN r 5 (.sl i g 1 0 l.length), .p (.int .i64 0)] = _
    congr 2
    unfold renN
    simp only [hrr]

theorem call9_none {o : Orc} (ho : Free o) {s : List UInt8} (hs : s.length ≤ 1000) (hd : decR s = none) {h dst t d r k Q} : callW cx o dst t h d r (some (.fn 9 [.p (.str s)])) k Q = k (put dst (.tup [.p .nils, .p (.int .i64 2)]) t) h d r := by
  rcases call9 ho s (by omega) h with ⟨_, q⟩ | ⟨l, e, _⟩
  · exact q _ _ _ _ _ _
  · rw [hd] at e; cases e
theorem call9_some {o : Orc} (ho : Free o) {s : List UInt8} (hs : s.length ≤ 1000) {m} (hd : decR s = some m) {h dst t d r k Q} : callW cx o dst t h d r (some (.fn 9 [.p (.str s)])) k Q = k (put dst (.tup [.sl h.length 0 1 0 m.length, .p (.int .i64 0)]) t) (h ++ [.row 9 1 (m.map .str) false 0]) d r := by
  rcases call9 ho s (by omega) h with ⟨e, _⟩ | ⟨l, e, q⟩
  · rw [hd] at e; cases e
  · rw [hd] at e; injection e with e; subst e; exact q _ _ _ _ _ _
theorem call10_none {o : Orc} (ho : Free o) {s : List UInt8} (hs : s.length ≤ 1000) (hd : decR s = none) {h dst t d r k Q} : callW cx o dst t h d r (some (.fn 10 [.p (.str s)])) k Q = k (put dst (.p (.agg [.nils, .int .i64 2])) t) h d r := by
  rcases call10 ho s hs h with ⟨_, q⟩ | ⟨l, e, _⟩
  · exact q _ _ _ _ _ _
  · rw [hd] at e; cases e
theorem call10_some {o : Orc} (ho : Free o) {s : List UInt8} (hs : s.length ≤ 1000) {m} (hd : decR s = some m) {h dst t d r k Q} : callW cx o dst t h d r (some (.fn 10 [.p (.str s)])) k Q = k (put dst (.agg [.sl h.length 0 1 0 m.length, .p (.int .i64 0)]) t) (h ++ [.row 9 1 (m.map .str) false 0]) d r := by
  rcases call10 ho s hs h with ⟨e, _⟩ | ⟨l, e, q⟩
  · rw [hd] at e; cases e
  · rw [hd] at e; injection e with e; subst e; exact q _ _ _ _ _ _
theorem extract0 {a b : AV} : extractW (.tup [a, b]) 0 = .w a := rfl
theorem extract1 {a b : AV} : extractW (.tup [a, b]) 1 = .w b := rfl

theorem short_of {l : List (List UInt8)} (h : shortB l = true) : ∀ i, (l.getD i []).length ≤ 200 := by
  intro i
  by_cases hi : i < l.length
  · simpa using List.all_eq_true.1 h i (List.mem_range.2 hi)
  · simp [List.getD, hi]

theorem law3 {o : Orc} (ho : Free o) (h6 : Ct cx o (.fn 6 []) [] fun e _ => e = .ret (.p (.bool true))) {v : AV} {l : List (List UInt8)} (H : ∀ h, Txts h v l) (s : List UInt8) :
    Ct cx o (.fn 3 [v, .p (.str s)]) [] (fun e _ => e = .ret (.p (.bool true))) := by
  refine ct3 (ho _ _ _ (by decide)) rfl ?_
  by_cases h100 : (100 : Int) < (l.length : Int)
  · simp only [sc3, sc3r0, sc3r1, sc3r2, u3, u4, u5, u9, u22, u25, u130, s3, s4, s5, s9, s22, s25, s29, s34, s130, a3, a4, a5, a9, a22, a25, a29, a34, a130, ↓xC_skip, ↓xC_reg, ↓xC_seq, ↓seqP_n, ↓seqP_ret, ↓seqP_pan, ↓seqP_exit, ↓xC_cond, ↓condW_true, ↓condW_false, ↓xC_block, ↓blockP_n, ↓blockP_ret, ↓blockP_pan, ↓blockP_exit, ↓loopP_n, ↓loopP_ret, ↓loopP_pan, ↓loopP_exit, ↓xC_exit, ↓xC_ret, ↓xOps_nil, ↓xOps_cons, ↓xOps_guard, ↓gW_tt, ↓gW_tf, ↓gW_ft, ↓gW_ff, ↓gW_un, ↓opW_w, ↓opW_ws, ↓opW_wn, ↓opW_wh, ↓opW_value, ↓opW_panic, put_some, put_none, target_fn, ev_tmp, ev_func, ev_int, ev_bool, ev_str, ev_nils, ev_nilp, ev_nili, ev_nilf, evs_nil, evs_cons, evp_nil, evp_cons, evo_none, evo_some, opD_move, opD_assign, opD_pick, pickW_true, pickW_false, pickW_bool, opD_bin, opD_not, opD_conv, opD_load, opD_store, opD_indexAddr, opD_index, opD_fieldAddr, opD_field, opD_extract, opD_len', len_str, len_nils, len_vec, len_sl, opD_alloc, opD_append', opD_buildSlice, opD_build, opD_slice', ofO_some, lss_i, leq_i, gtr_i, geq_i, eql_i, neq_i, add_i, sub_i, mul_i, not_b, eql_s, neq_s, lss_s, leq_s, end_ret, end_n, end_pan, Tm.get_set, argT, Nat.reduceEqDiff, Nat.reduceAdd, if_true, if_false, cond_true, cond_false, Bool.true_eq_false, Bool.false_eq_true, Bool.not_true, Bool.not_false, reduceCtorEq, List.toList_toArray, Nat.reduceLT, results?, vals, ite_true, ite_false, (H _).len u22, h100, decide_true, call6 h6]
  · have hl : l.length < 9223372036854775800 := by omega
    cases hsl : shortB l
    · simp only [sc3, sc3r0, sc3r1, sc3r2, u3, u4, u5, u9, u22, u25, u130, s3, s4, s5, s9, s22, s25, s29, s34, s130, a3, a4, a5, a9, a22, a25, a29, a34, a130, ↓xC_skip, ↓xC_reg, ↓xC_seq, ↓seqP_n, ↓seqP_ret, ↓seqP_pan, ↓seqP_exit, ↓xC_cond, ↓condW_true, ↓condW_false, ↓xC_block, ↓blockP_n, ↓blockP_ret, ↓blockP_pan, ↓blockP_exit, ↓loopP_n, ↓loopP_ret, ↓loopP_pan, ↓loopP_exit, ↓xC_exit, ↓xC_ret, ↓xOps_nil, ↓xOps_cons, ↓xOps_guard, ↓gW_tt, ↓gW_tf, ↓gW_ft, ↓gW_ff, ↓gW_un, ↓opW_w, ↓opW_ws, ↓opW_wn, ↓opW_wh, ↓opW_value, ↓opW_panic, put_some, put_none, target_fn, ev_tmp, ev_func, ev_int, ev_bool, ev_str, ev_nils, ev_nilp, ev_nili, ev_nilf, evs_nil, evs_cons, evp_nil, evp_cons, evo_none, evo_some, opD_move, opD_assign, opD_pick, pickW_true, pickW_false, pickW_bool, opD_bin, opD_not, opD_conv, opD_load, opD_store, opD_indexAddr, opD_index, opD_fieldAddr, opD_field, opD_extract, opD_len', len_str, len_nils, len_vec, len_sl, opD_alloc, opD_append', opD_buildSlice, opD_build, opD_slice', ofO_some, lss_i, leq_i, gtr_i, geq_i, eql_i, neq_i, add_i, sub_i, mul_i, not_b, eql_s, neq_s, lss_s, leq_s, end_ret, end_n, end_pan, Tm.get_set, argT, Nat.reduceEqDiff, Nat.reduceAdd, if_true, if_false, cond_true, cond_false, Bool.true_eq_false, Bool.false_eq_true, Bool.not_true, Bool.not_false, reduceCtorEq, List.toList_toArray, Nat.reduceLT, results?, vals, ite_true, ite_false, (H _).len u22, h100, decide_false, call6 h6, call5 ho (H _) hl, hsl]
    · have hb := build1 (h := []) (v := .str s) u22 s9 a9 z9 rfl rfl rfl
      have hTs : Txts ([] ++ [.row 9 1 [.str s] true 0]) (.sl ([] : List Ob).length 0 1 0 1) [s] := .row (l := [s]) rfl
      cases hss : shortB [s]
      · simp only [sc3, sc3r0, sc3r1, sc3r2, u3, u4, u5, u9, u22, u25, u130, s3, s4, s5, s9, s22, s25, s29, s34, s130, a3, a4, a5, a9, a22, a25, a29, a34, a130, ↓xC_skip, ↓xC_reg, ↓xC_seq, ↓seqP_n, ↓seqP_ret, ↓seqP_pan, ↓seqP_exit, ↓xC_cond, ↓condW_true, ↓condW_false, ↓xC_block, ↓blockP_n, ↓blockP_ret, ↓blockP_pan, ↓blockP_exit, ↓loopP_n, ↓loopP_ret, ↓loopP_pan, ↓loopP_exit, ↓xC_exit, ↓xC_ret, ↓xOps_nil, ↓xOps_cons, ↓xOps_guard, ↓gW_tt, ↓gW_tf, ↓gW_ft, ↓gW_ff, ↓gW_un, ↓opW_w, ↓opW_ws, ↓opW_wn, ↓opW_wh, ↓opW_value, ↓opW_panic, put_some, put_none, target_fn, ev_tmp, ev_func, ev_int, ev_bool, ev_str, ev_nils, ev_nilp, ev_nili, ev_nilf, evs_nil, evs_cons, evp_nil, evp_cons, evo_none, evo_some, opD_move, opD_assign, opD_pick, pickW_true, pickW_false, pickW_bool, opD_bin, opD_not, opD_conv, opD_load, opD_store, opD_indexAddr, opD_index, opD_fieldAddr, opD_field, opD_extract, opD_len', len_str, len_nils, len_vec, len_sl, opD_alloc, opD_append', opD_buildSlice, opD_build, opD_slice', ofO_some, lss_i, leq_i, gtr_i, geq_i, eql_i, neq_i, add_i, sub_i, mul_i, not_b, eql_s, neq_s, lss_s, leq_s, end_ret, end_n, end_pan, Tm.get_set, argT, Nat.reduceEqDiff, Nat.reduceAdd, if_true, if_false, cond_true, cond_false, Bool.true_eq_false, Bool.false_eq_true, Bool.not_true, Bool.not_false, reduceCtorEq, List.toList_toArray, Nat.reduceLT, results?, vals, ite_true, ite_false, (H _).len u22, h100, decide_false, call6 h6, call5 ho (H _) hl, hsl, hb, call5 ho hTs (by rw [List.length_singleton]; decide), hss]
      · have hs200 : s.length ≤ 200 := by have := short_of hss 0; simpa using this
        have hs1 : ∀ i, (l.getD i []).length ≤ 1000 := fun i => Nat.le_trans (short_of hsl i) (by omega)
        have fa : ∀ n, fieldAddr? cx 29 (.ptr n 0) 0 = some (.ptr n 0) := fun n => fieldAddr_ptr (m := 0) f29_0 s9
        have fb : ∀ n, fieldAddr? cx 29 (.ptr n 0) 1 = some (.ptr n 1) := fun n => fieldAddr_ptr (m := 0) f29_1 s25
        have fc : ∀ n, fieldAddr? cx 34 (.ptr n 0) 0 = some (.ptr n 0) := fun n => fieldAddr_ptr (m := 0) f34_0 s22
        have fd : ∀ n, fieldAddr? cx 34 (.ptr n 0) 1 = some (.ptr n 1) := fun n => fieldAddr_ptr (m := 0) f34_1 s25
        have st29 : ∀ (h : List Ob) (x y : PV), store? cx (h ++ [.cells 29 [.p (.str []), .p (.int .i64 0)]]) 29 (.ptr h.length 0) (.p (.agg [x, y])) = .ws undefA h.length (.cells 29 [.p x, .p y]) := fun h x y => store_whole s29 (hget_new _ _) rfl rfl rfl
        have st34 : ∀ (h : List Ob) (x y : PV), store? cx (h ++ [.cells 34 [.p .nils, .p (.int .i64 0)]]) 34 (.ptr h.length 0) (.p (.agg [x, y])) = .ws undefA h.length (.cells 34 [.p x, .p y]) := fun h x y => store_whole s34 (hget_new _ _) rfl rfl rfl
        have st34' : ∀ (h : List Ob) (x y : AV), store? cx (h ++ [.cells 34 [.p .nils, .p (.int .i64 0)]]) 34 (.ptr h.length 0) (.agg [x, y]) = .ws undefA h.length (.cells 34 [x, y]) := fun h x y => store_whole s34 (hget_new _ _) rfl rfl rfl
        have lda : ∀ (h : List Ob) (c : Ob) (x y : PV), load? cx (h ++ [.cells 29 [.p x, .p y]] ++ [c]) 9 (.ptr h.length 0) = some (.p x) := fun h c x y => load_one a9 (by rw [hget_app _ _ _ (by simp)]; exact hget_new _ _) rfl
        have ldb : ∀ (h : List Ob) (c : Ob) (x y : PV), load? cx (h ++ [.cells 29 [.p x, .p y]] ++ [c]) 25 (.ptr h.length 1) = some (.p y) := fun h c x y => load_one a25 (by rw [hget_app _ _ _ (by simp)]; exact hget_new _ _) rfl
        have lda' : ∀ (h : List Ob) (c1 c2 c : Ob) (x y : PV), load? cx (h ++ [.cells 29 [.p x, .p y]] ++ [c1] ++ [c2] ++ [c]) 9 (.ptr h.length 0) = some (.p x) := fun h c1 c2 c x y => load_one a9 (by rw [hget_app _ _ _ (by simp only [List.length_append, List.length_singleton]; omega), hget_app _ _ _ (by simp only [List.length_append, List.length_singleton]; omega), hget_app _ _ _ (by simp)]; exact hget_new _ _) rfl
        have ldb' : ∀ (h : List Ob) (c1 c2 c : Ob) (x y : PV), load? cx (h ++ [.cells 29 [.p x, .p y]] ++ [c1] ++ [c2] ++ [c]) 25 (.ptr h.length 1) = some (.p y) := fun h c1 c2 c x y => load_one a25 (by rw [hget_app _ _ _ (by simp only [List.length_append, List.length_singleton]; omega), hget_app _ _ _ (by simp only [List.length_append, List.length_singleton]; omega), hget_app _ _ _ (by simp)]; exact hget_new _ _) rfl
        have ldc : ∀ (h : List Ob) (x y : AV), load? cx (h ++ [.cells 34 [x, y]]) 22 (.ptr h.length 0) = some x := fun h x y => load_one a22 (hget_new _ _) rfl
        have ldd : ∀ (h : List Ob) (x y : AV), load? cx (h ++ [.cells 34 [x, y]]) 25 (.ptr h.length 1) = some y := fun h x y => load_one a25 (hget_new _ _) rfl
        cases hd : decR s with
        | none =>
          have hn : ∀ {h}, Txts h (.p .nils) [] := .nil
          simp only [sc3, sc3r0, sc3r1, sc3r2, sc3r3, sc3r4, sc3r5, sc3r6, sc3r7, u3, u4, u5, u9, u22, u25, u130, s3, s4, s5, s9, s22, s25, s29, s34, s130, a3, a4, a5, a9, a22, a25, a29, a34, a130, ↓xC_skip, ↓xC_reg, ↓xC_seq, ↓seqP_n, ↓seqP_ret, ↓seqP_pan, ↓seqP_exit, ↓xC_cond, ↓condW_true, ↓condW_false, ↓xC_block, ↓blockP_n, ↓blockP_ret, ↓blockP_pan, ↓blockP_exit, ↓loopP_n, ↓loopP_ret, ↓loopP_pan, ↓loopP_exit, ↓xC_exit, ↓xC_ret, ↓xOps_nil, ↓xOps_cons, ↓xOps_guard, ↓gW_tt, ↓gW_tf, ↓gW_ft, ↓gW_ff, ↓gW_un, ↓opW_w, ↓opW_ws, ↓opW_wn, ↓opW_wh, ↓opW_value, ↓opW_panic, put_some, put_none, target_fn, ev_tmp, ev_func, ev_int, ev_bool, ev_str, ev_nils, ev_nilp, ev_nili, ev_nilf, evs_nil, evs_cons, evp_nil, evp_cons, evo_none, evo_some, opD_move, opD_assign, opD_pick, pickW_true, pickW_false, pickW_bool, opD_bin, opD_not, opD_conv, opD_load, opD_store, opD_indexAddr, opD_index, opD_fieldAddr, opD_field, opD_extract, opD_len', len_str, len_nils, len_vec, len_sl, opD_alloc, opD_append', opD_buildSlice, opD_build, opD_slice', ofO_some, lss_i, leq_i, gtr_i, geq_i, eql_i, neq_i, add_i, sub_i, mul_i, not_b, eql_s, neq_s, lss_s, leq_s, end_ret, end_n, end_pan, Tm.get_set, argT, Nat.reduceEqDiff, Nat.reduceAdd, if_true, if_false, cond_true, cond_false, Bool.true_eq_false, Bool.false_eq_true, Bool.not_true, Bool.not_false, reduceCtorEq, List.toList_toArray, Nat.reduceLT, results?, vals, ite_true, ite_false, (H _).len u22, h100, decide_false, call6 h6, call5 ho (H _) hl, hsl, hb, call5 ho hTs (by rw [List.length_singleton]; decide), hss,
            call7 ho (H _) (by omega) hs1, call8 ho (H _) (by omega) hs1, call9_none ho (Nat.le_trans hs200 (by decide)) hd, call10_none ho (Nat.le_trans hs200 (by decide)) hd, extract0, extract1, z29, z34, PV.cells, List.map_cons, List.map_nil, st29, st34, st34', hset_new, fa, fb, fc, fd,
            lda, ldb, ldc, ldd, eq_self, decide_true, call11 ho hn hn (by decide)]
        | some m =>
          have hm : m.length ≤ s.length := by
            unfold decR at hd
            split at hd
            · cases hd
            · cases hp : parse s with
              | none => rw [hp] at hd; cases hd
              | some q =>
                rw [hp] at hd
                simp only at hd
                split at hd
                · injection hd with hd; subst hd; exact (encB_parse _ s rfl _ hp).2.1
                · cases hd
          have T1 : ∀ (h : List Ob) (c1 c2 : Ob), Txts (h ++ [.row 9 1 (m.map .str) false 0] ++ [c1] ++ [c2]) (.sl h.length 0 1 0 m.length) m := fun h c1 c2 => .row (ex := false) (e := 9) (by rw [hget_app _ _ _ (by simp only [List.length_append, List.length_singleton]; omega), hget_app _ _ _ (by simp)]; exact hget_new _ _)
          have T2 : ∀ (h : List Ob) (c2 : Ob), Txts (h ++ [.row 9 1 (m.map .str) false 0] ++ [c2]) (.sl h.length 0 1 0 m.length) m := fun h c2 => .row (ex := false) (e := 9) (by rw [hget_app _ _ _ (by simp)]; exact hget_new _ _)
          simp only [sc3, sc3r0, sc3r1, sc3r2, sc3r3, sc3r4, sc3r5, sc3r6, sc3r7, u3, u4, u5, u9, u22, u25, u130, s3, s4, s5, s9, s22, s25, s29, s34, s130, a3, a4, a5, a9, a22, a25, a29, a34, a130, ↓xC_skip, ↓xC_reg, ↓xC_seq, ↓seqP_n, ↓seqP_ret, ↓seqP_pan, ↓seqP_exit, ↓xC_cond, ↓condW_true, ↓condW_false, ↓xC_block, ↓blockP_n, ↓blockP_ret, ↓blockP_pan, ↓blockP_exit, ↓loopP_n, ↓loopP_ret, ↓loopP_pan, ↓loopP_exit, ↓xC_exit, ↓xC_ret, ↓xOps_nil, ↓xOps_cons, ↓xOps_guard, ↓gW_tt, ↓gW_tf, ↓gW_ft, ↓gW_ff, ↓gW_un, ↓opW_w, ↓opW_ws, ↓opW_wn, ↓opW_wh, ↓opW_value, ↓opW_panic, put_some, put_none, target_fn, ev_tmp, ev_func, ev_int, ev_bool, ev_str, ev_nils, ev_nilp, ev_nili, ev_nilf, evs_nil, evs_cons, evp_nil, evp_cons, evo_none, evo_some, opD_move, opD_assign, opD_pick, pickW_true, pickW_false, pickW_bool, opD_bin, opD_not, opD_conv, opD_load, opD_store, opD_indexAddr, opD_index, opD_fieldAddr, opD_field, opD_extract, opD_len', len_str, len_nils, len_vec, len_sl, opD_alloc, opD_append', opD_buildSlice, opD_build, opD_slice', ofO_some, lss_i, leq_i, gtr_i, geq_i, eql_i, neq_i, add_i, sub_i, mul_i, not_b, eql_s, neq_s, lss_s, leq_s, end_ret, end_n, end_pan, Tm.get_set, argT, Nat.reduceEqDiff, Nat.reduceAdd, if_true, if_false, cond_true, cond_false, Bool.true_eq_false, Bool.false_eq_true, Bool.not_true, Bool.not_false, reduceCtorEq, List.toList_toArray, Nat.reduceLT, results?, vals, ite_true, ite_false, (H _).len u22, h100, decide_false, call6 h6, call5 ho (H _) hl, hsl, hb, call5 ho hTs (by rw [List.length_singleton]; decide), hss,
            call7 ho (H _) (by omega) hs1, call8 ho (H _) (by omega) hs1, call9_some ho (Nat.le_trans hs200 (by decide)) hd, call10_some ho (Nat.le_trans hs200 (by decide)) hd, extract0, extract1, z29, z34, PV.cells, List.map_cons, List.map_nil, st29, st34, st34', hset_new, fa, fb, fc, fd,
            lda', ldb', ldc, ldd, eq_self, decide_true, call11 ho (T1 _ _ _) (T2 _ _) (by omega)]
end Go.Proofs

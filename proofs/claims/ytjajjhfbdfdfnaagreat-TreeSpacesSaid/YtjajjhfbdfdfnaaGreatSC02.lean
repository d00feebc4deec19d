/- What is proved: a block of the digest leaves in its memory what SHA-256 says, by words of 32 bits ('blk_ct'). Conditions: the block has 64 bytes. -/
import Derived.Test.YtjajjhfbdfdfnaaGreatSC01
import Derived.Test.YtjajjhfbdfdfnaaGreatSA10
set_option linter.all false
set_option maxRecDepth 100000
namespace Go.Proofs
open Go Go.Ai
def o0 : Orc := fun _ _ _ => none
theorem z273 : zero? cx 273 = some (.agg (up (List.replicate 8 0))) := by kernel_rfl
theorem z274 : zero? cx 274 = some (.agg (up (List.replicate 64 0))) := by kernel_rfl
theorem rot260 {x k : Int} {s : Nat} (hs : an64 (IntKind.wrap .u64 k) 31 = (s : Int)) (h2 : IntKind.wrap .u64 (32 - (s : Int)) = ((32 - s : Nat) : Int)) (h32 : s ≤ 32) :
  Ct cx o0 (.fn 260 [.p (.int .u32 x), .p (.int .i64 k)]) [] (fun e _ => e = .ret (.p (.int .u32 (rot x s)))) := by
 refine ct260 rfl rfl ?_
 have hcv : ∀ hh, conv3 cx hh 3 228 (.p (.int .i64 k)) = .w (.p (.int .u64 (IntKind.wrap .u64 k))) := fun hh => conv_int u3 u228
 simp only [sc260, sc260r0, sc260r1, sc260r2, ↓rwA, rwB, rwG, Nat.reduceEqDiff, Nat.reduceAdd, reduceCtorEq, Nat.reduceLT, hcv, band_w, hs, shl_u h32, h2, shr_u (show 32 - s ≤ 32 by omega), bor_u]
 rfl
theorem call260 {x k : Int} {s : Nat} (hs : an64 (IntKind.wrap .u64 k) 31 = (s : Int)) (h2 : IntKind.wrap .u64 (32 - (s : Int)) = ((32 - s : Nat) : Int)) (h32 : s ≤ 32) {dst t h d r K Q} :
  callW cx o0 dst t h d r (some (.fn 260 [.p (.int .u32 x), .p (.int .i64 k)])) K Q = K (put dst (.p (.int .u32 (rot x s))) t) h d r :=
 callW_ret ext260 (cs_p (f := 260) (ps := [.int .u32 x, .int .i64 k]) rfl (rot260 hs h2 h32))
section
variable {x : Int} {dst : Option Tmp} {t : Tm} {h : List Ob} {d : List AD} {r : Option RM} {K : KP} {Q : Post}
theorem c7 : callW cx o0 dst t h d r (some (.fn 260 [.p (.int .u32 x), .p (.int .i64 (-7))])) K Q = K (put dst (.p (.int .u32 (rot x 25))) t) h d r := call260 (s := 25) (by decide +kernel) (by decide +kernel) (by decide)
theorem c18 : callW cx o0 dst t h d r (some (.fn 260 [.p (.int .u32 x), .p (.int .i64 (-18))])) K Q = K (put dst (.p (.int .u32 (rot x 14))) t) h d r := call260 (s := 14) (by decide +kernel) (by decide +kernel) (by decide)
theorem c17 : callW cx o0 dst t h d r (some (.fn 260 [.p (.int .u32 x), .p (.int .i64 (-17))])) K Q = K (put dst (.p (.int .u32 (rot x 15))) t) h d r := call260 (s := 15) (by decide +kernel) (by decide +kernel) (by decide)
theorem c19 : callW cx o0 dst t h d r (some (.fn 260 [.p (.int .u32 x), .p (.int .i64 (-19))])) K Q = K (put dst (.p (.int .u32 (rot x 13))) t) h d r := call260 (s := 13) (by decide +kernel) (by decide +kernel) (by decide)
theorem c6 : callW cx o0 dst t h d r (some (.fn 260 [.p (.int .u32 x), .p (.int .i64 (-6))])) K Q = K (put dst (.p (.int .u32 (rot x 26))) t) h d r := call260 (s := 26) (by decide +kernel) (by decide +kernel) (by decide)
theorem c11 : callW cx o0 dst t h d r (some (.fn 260 [.p (.int .u32 x), .p (.int .i64 (-11))])) K Q = K (put dst (.p (.int .u32 (rot x 21))) t) h d r := call260 (s := 21) (by decide +kernel) (by decide +kernel) (by decide)
theorem c25 : callW cx o0 dst t h d r (some (.fn 260 [.p (.int .u32 x), .p (.int .i64 (-25))])) K Q = K (put dst (.p (.int .u32 (rot x 7))) t) h d r := call260 (s := 7) (by decide +kernel) (by decide +kernel) (by decide)
theorem c2 : callW cx o0 dst t h d r (some (.fn 260 [.p (.int .u32 x), .p (.int .i64 (-2))])) K Q = K (put dst (.p (.int .u32 (rot x 30))) t) h d r := call260 (s := 30) (by decide +kernel) (by decide +kernel) (by decide)
theorem c13 : callW cx o0 dst t h d r (some (.fn 260 [.p (.int .u32 x), .p (.int .i64 (-13))])) K Q = K (put dst (.p (.int .u32 (rot x 19))) t) h d r := call260 (s := 19) (by decide +kernel) (by decide +kernel) (by decide)
theorem c22 : callW cx o0 dst t h d r (some (.fn 260 [.p (.int .u32 x), .p (.int .i64 (-22))])) K Q = K (put dst (.p (.int .u32 (rot x 10))) t) h d r := call260 (s := 10) (by decide +kernel) (by decide +kernel) (by decide)
end
def byt (b : List UInt8) (i : Nat) : Int := IntKind.wrap .u32 ((b.getD i 0).toNat : Int)
def wrd (b : List UInt8) (w : List Int) (i : Nat) : Int :=
 if i < 16 then orr (orr (orr (sl32 (byt b (4 * i)) 24) (sl32 (byt b (4 * i + 1)) 16)) (sl32 (byt b (4 * i + 2)) 8)) (byt b (4 * i + 3))
 else ad (ad (ad (w.getD (i - 16) 0) (xr (xr (rot (w.getD (i - 15) 0) 25) (rot (w.getD (i - 15) 0) 14)) (sr32 (w.getD (i - 15) 0) 3))) (w.getD (i - 7) 0))
  (xr (xr (rot (w.getD (i - 2) 0) 15) (rot (w.getD (i - 2) 0) 13)) (sr32 (w.getD (i - 2) 0) 10))
def W (b : List UInt8) : Nat → List Int
 | 0 => List.replicate 64 0
 | i + 1 => (W b i).set i (wrd b (W b i) i)
theorem W_len (b i) : (W b i).length = 64 := by
 induction i with
 | zero => rfl
 | succ i ih => unfold W; rw [List.length_set, ih]
def rnd (k w : Int) (v : List Int) : List Int :=
 match v with
 | [a, b, c, d, e, f, g, h] =>
  [ad (ad (ad (ad (ad h (xr (xr (rot e 26) (rot e 21)) (rot e 7))) (xr (an e f) (an (nt e) g))) k) w) (ad (xr (xr (rot a 30) (rot a 19)) (rot a 10)) (xr (xr (an a b) (an a c)) (an b c))), a, b, c,
   ad d (ad (ad (ad (ad h (xr (xr (rot e 26) (rot e 21)) (rot e 7))) (xr (an e f) (an (nt e) g))) k) w), e, f, g]
 | v => v
def V (ks ws v : List Int) : Nat → List Int
 | 0 => v
 | i + 1 => rnd (ks.getD i 0) (ws.getD i 0) (V ks ws v i)
theorem V_len (ks ws v i) (hv : v.length = 8) : (V ks ws v i).length = 8 := by
 induction i with
 | zero => exact hv
 | succ i ih => unfold V rnd; split <;> first | rfl | exact ih
def HH (v h0 : List Int) : Nat → List Int
 | 0 => h0
 | i + 1 => (HH v h0 i).set i (ad ((HH v h0 i).getD i 0) (v.getD i 0))
theorem HH_len (v h0 i) (hh : h0.length = 8) : (HH v h0 i).length = 8 := by
 induction i with
 | zero => exact hh
 | succ i ih => unfold HH; rw [List.length_set, ih]
theorem b273 (a b c d e f g h : Int) : build? cx 273 [(0, .p (.int .u32 a)), (1, .p (.int .u32 b)), (2, .p (.int .u32 c)), (3, .p (.int .u32 d)), (4, .p (.int .u32 e)), (5, .p (.int .u32 f)), (6, .p (.int .u32 g)), (7, .p (.int .u32 h))] = some (.p (.agg (up [a, b, c, d, e, f, g, h]))) := by kernel_rfl
def blkEnd (e : TypeId) (b : List UInt8) (H K : List Int) (mid : List AV) : List Ob :=
 [.cells e (us (HH (V K (W b 64) H 64) H 8) ++ (mid ++ us K)), .cells 274 (us (W b 64)), .cells 273 (us (V K (W b 64) H 64))]
theorem ia {n : Nat} {ty : TypeId} {i off : Nat} {j : Nat} (hu : cx.under ty = some (.array n 272)) (hj : j < n) : indexAddr? cx ty (.ptr i off) (.p (.int .i64 (j : Int))) = some (.ptr i (off + j)) := by
 rw [idx_ptr hu s272 (by omega) (by omega), Int.toNat_natCast]
theorem blk_ct {e : TypeId} {b : List UInt8} {H K : List Int} {mid : List AV} (hb : b.length = 64) (hH : H.length = 8) (hK : K.length = 64) (hm : mid.length = 2) :
  Ct cx o0 (.fn 232 [.ptr 0 0, .p (.str b)]) [.cells e (us H ++ (mid ++ us K))] (fun en h' => en = .ret (.tup []) ∧ h' = blkEnd e b H K mid) := by
 refine ct232 rfl rfl ?_
 simp only [sc232, sc232r0, sc232r1, ↓rwA, rwB, rwG, Nat.reduceEqDiff, Nat.reduceAdd, reduceCtorEq, Nat.reduceLT, z274, cells_up, List.cons_append, List.nil_append, List.length_cons, List.length_nil]
 refine xC_loop (fun n t h' d r => ∃ i : Nat, n = 64 - i ∧ i ≤ 64 ∧ d = [] ∧ r = none ∧ t.get 0 = .ptr 0 0 ∧ t.get 1 = .p (.str b) ∧ t.get 4 = .ptr 1 0 ∧ t.get 22 = .p (.int .i64 (i : Int)) ∧ h' = [.cells e (us H ++ (mid ++ us K)), .cells 274 (us (W b i))]) 64 ?_ ?_
 ·refine ⟨0, rfl, by omega, rfl, rfl, ?_⟩
  simp only [↓rwA, rwB, rwG, Nat.reduceEqDiff, Nat.reduceAdd, reduceCtorEq, Nat.reduceLT, true_and]
  first | rfl | exact ⟨rfl, rfl⟩ | exact ⟨trivial, rfl⟩
 ·rintro n t h' d r ⟨i, rfl, hi, rfl, rfl, t0, t1, t4, t22, rfl⟩
  have hw1 : IntKind.wrap .i64 ((i : Int) + 1) = ((i + 1 : Nat) : Int) := by rw [wrap64_id (by omega) (by omega)]; omega
  by_cases hlt : (i : Int) < 64
  ·have hiw : i < (W b i).length := by rw [W_len]; omega
   have ai : indexAddr? cx 274 (.ptr 1 0) (.p (.int .i64 (i : Int))) = some (.ptr 1 i) := by rw [ia u274 (by omega), Nat.zero_add]
   have st : ∀ n : Int, store? cx [.cells e (us H ++ (mid ++ us K)), .cells 274 (us (W b i))] 272 (.ptr 1 i) (.p (.int .u32 n)) = .ws undefA 1 (.cells 274 (us ((W b i).set i n))) := fun n => by
    rw [store_one s272 rfl rfl (by rw [us_length]; exact hiw), us_set]
   by_cases h16 : (i : Int) < 16
   ·have m4 : IntKind.wrap .i64 (4 * (i : Int)) = ((4 * i : Nat) : Int) := by rw [wrap64_id (by omega) (by omega)]; omega
    have m41 : IntKind.wrap .i64 (((4 * i : Nat) : Int) + 1) = ((4 * i + 1 : Nat) : Int) := by rw [wrap64_id (by omega) (by omega)]; omega
    have m42 : IntKind.wrap .i64 (((4 * i : Nat) : Int) + 2) = ((4 * i + 2 : Nat) : Int) := by rw [wrap64_id (by omega) (by omega)]; omega
    have m43 : IntKind.wrap .i64 (((4 * i : Nat) : Int) + 3) = ((4 * i + 3 : Nat) : Int) := by rw [wrap64_id (by omega) (by omega)]; omega
    have ix : ∀ k : Nat, k < 64 → index? cx 9 (.p (.str b)) (.p (.int .i64 (k : Int))) = some (.p (.int .u8 (b.getD k 0).toNat)) := fun k hk => by
     have := index_str (c := cx) (ty := 9) (s := b) (i := (k : Int)) (j := .i64) u9 (by omega) (by omega)
     rw [this, Int.toNat_natCast]
    have i0 := ix (4 * i) (by omega)
    have i1 := ix (4 * i + 1) (by omega)
    have i2 := ix (4 * i + 2) (by omega)
    have i3 := ix (4 * i + 3) (by omega)
    have cv : ∀ hh k, conv3 cx hh 5 272 (.p (.int .u8 (b.getD k 0).toNat)) = .w (.p (.int .u32 (byt b k))) := fun hh k => conv_int u5 u272
    simp only [sc232l11, sc232r2, sc232r3, sc232r4, sc232d5_x, sc232r5, sc232r10, ↓rwA, rwB, rwG, Nat.reduceEqDiff, Nat.reduceAdd, reduceCtorEq, Nat.reduceLT, ↓rwC, rwD, rwI, Nat.reduceSub, Nat.reduceLeDiff, t0, t1, t4, t22, hlt, h16, decide_true, m4, m41, m42, m43, i0, i1, i2, i3, cv, shl24, shl16, shl8, bor_u, ai, st, hset2_1, hw1, true_and]
    refine ⟨_, ?_, i + 1, rfl, ?_, ?_⟩
    ·omega
    ·omega
    ·rw [show W b (i + 1) = _ from (show (W b i).set i (wrd b (W b i) i) = _ by unfold wrd; rw [if_pos (show i < 16 by omega)])]
     first | rfl | exact ⟨rfl, rfl⟩ | exact ⟨trivial, rfl⟩
   ·have s15 : IntKind.wrap .i64 ((i : Int) - 15) = ((i - 15 : Nat) : Int) := by rw [wrap64_id (by omega) (by omega)]; omega
    have s2 : IntKind.wrap .i64 ((i : Int) - 2) = ((i - 2 : Nat) : Int) := by rw [wrap64_id (by omega) (by omega)]; omega
    have s16 : IntKind.wrap .i64 ((i : Int) - 16) = ((i - 16 : Nat) : Int) := by rw [wrap64_id (by omega) (by omega)]; omega
    have s7 : IntKind.wrap .i64 ((i : Int) - 7) = ((i - 7 : Nat) : Int) := by rw [wrap64_id (by omega) (by omega)]; omega
    have aj : ∀ k : Nat, k < 64 → indexAddr? cx 274 (.ptr 1 0) (.p (.int .i64 (k : Int))) = some (.ptr 1 k) := fun k hk => by rw [ia u274 hk, Nat.zero_add]
    have a15 := aj (i - 15) (by omega)
    have a2 := aj (i - 2) (by omega)
    have a16 := aj (i - 16) (by omega)
    have a7 := aj (i - 7) (by omega)
    have lj : ∀ k : Nat, k < 64 → load? cx [.cells e (us H ++ (mid ++ us K)), .cells 274 (us (W b i))] 272 (.ptr 1 k) = some (.p (.int .u32 ((W b i).getD k 0))) := fun k hk => load_one a272 rfl (us_get (by rw [W_len]; omega))
    have l15 := lj (i - 15) (by omega)
    have l2 := lj (i - 2) (by omega)
    have l16 := lj (i - 16) (by omega)
    have l7 := lj (i - 7) (by omega)
    simp only [sc232l11, sc232r2, sc232r3, sc232r4, sc232d6_x, sc232r6, sc232r7, sc232r8, sc232d9_x, sc232r9, sc232r10, ↓rwA, rwB, rwG, Nat.reduceEqDiff, Nat.reduceAdd, reduceCtorEq, Nat.reduceLT, ↓rwC, rwD, rwI, Nat.reduceSub, Nat.reduceLeDiff, t0, t1, t4, t22, hlt, h16, decide_true, decide_false, s15, s2, s16, s7, a15, a2, a16, a7, l15, l2, l16, l7, c7, c18, c17, c19, shr3, shr10, bxor_u, ai, st, hset2_1, hw1, true_and]
    refine ⟨_, ?_, i + 1, rfl, ?_, ?_⟩
    ·omega
    ·omega
    ·rw [show W b (i + 1) = _ from (show (W b i).set i (wrd b (W b i) i) = _ by unfold wrd; rw [if_neg (show ¬i < 16 by omega)])]
     first | rfl | exact ⟨rfl, rfl⟩ | exact ⟨trivial, rfl⟩
  ·obtain rfl : i = 64 := by omega
   have ld : load? cx [.cells e (us H ++ (mid ++ us K)), .cells 274 (us (W b 64))] 273 (.ptr 0 0) = some (.p (.agg (up H))) := by
    rw [load_part a273 s273 rfl (by rw [List.length_append, us_length]; omega), List.drop_zero, List.take_left' (by rw [us_length]; exact hH), mkAgg_us]
   have fa : fieldAddr? cx 281 (.ptr 0 0) 0 = some (.ptr 0 0) := fieldAddr_ptr (m := 9) f281_0 s279
   have fb : fieldAddr? cx 279 (.ptr 0 0) 0 = some (.ptr 0 0) := fieldAddr_ptr (m := 7) f279_0 s273
   have fk : fieldAddr? cx 281 (.ptr 0 0) 1 = some (.ptr 0 10) := fieldAddr_ptr (m := 63) f281_1 s274
   have sw : ∀ (v v' : List Int) (x : Ob), v.length = 8 → v'.length = 8 → store? cx [x, .cells 274 (us (W b 64)), .cells 273 (us v)] 273 (.ptr 2 0) (.p (.agg (up v'))) = .ws undefA 2 (.cells 273 (us v')) := fun v v' x hv hv' =>
    store_whole s273 rfl (show _ = some (us v') by rw [us_up]; rfl) (by rw [us_length]; exact hv') (by rw [us_length]; exact hv)
   have sw0 := sw (List.replicate 8 0) H (.cells e (us H ++ (mid ++ us K))) rfl hH
   simp only [sc232l11, sc232r2, sc232r12, sc232r13, ↓rwA, rwB, rwG, Nat.reduceEqDiff, Nat.reduceAdd, reduceCtorEq, Nat.reduceLT, t0, t1, t4, t22, hlt, decide_false, opD_nilCheck, nilW_ptr, fa, fb, ld, z273, cells_up, List.cons_append, List.nil_append, List.length_cons, List.length_nil, sw0, hset3_2]
   refine xC_loop (fun n t h' d r => ∃ i : Nat, n = 64 - i ∧ i ≤ 64 ∧ d = [] ∧ r = none ∧ t.get 0 = .ptr 0 0 ∧ t.get 4 = .ptr 1 0 ∧ t.get 10 = .ptr 2 0 ∧ t.get 103 = .p (.int .i64 (i : Int)) ∧ h' = [.cells e (us H ++ (mid ++ us K)), .cells 274 (us (W b 64)), .cells 273 (us (V K (W b 64) H i))]) 64 ?_ ?_
   ·refine ⟨0, rfl, by omega, rfl, rfl, ?_⟩
    simp only [↓rwA, rwB, rwG, Nat.reduceEqDiff, Nat.reduceAdd, reduceCtorEq, Nat.reduceLT, true_and, t0, t4]
    first | rfl | exact ⟨rfl, rfl⟩ | exact ⟨trivial, rfl⟩
   ·rintro n t h' d r ⟨i, rfl, hi, rfl, rfl, t0, t4, t10, t103, rfl⟩
    have hw1 : IntKind.wrap .i64 ((i : Int) + 1) = ((i + 1 : Nat) : Int) := by rw [wrap64_id (by omega) (by omega)]; omega
    have hV := V_len K (W b 64) H i hH
    by_cases hlt : (i : Int) < 64
    ·have hM : ∃ a b' c d e' f g k, V K (W b 64) H i = [a, b', c, d, e', f, g, k] := by
      match hq : V K (W b 64) H i, hV with
      | [a, b', c, d, e', f, g, k], _ => exact ⟨a, b', c, d, e', f, g, k, rfl⟩
     obtain ⟨a, b', c, d, e', f, g, k, hVe⟩ := hM
     rw [hVe]
     have x0 : indexAddr? cx 273 (.ptr 2 0) (.p (.int .i64 0)) = some (.ptr 2 0) := ia (j := 0) u273 (by decide)
     have x1 : indexAddr? cx 273 (.ptr 2 0) (.p (.int .i64 1)) = some (.ptr 2 1) := ia (j := 1) u273 (by decide)
     have x2 : indexAddr? cx 273 (.ptr 2 0) (.p (.int .i64 2)) = some (.ptr 2 2) := ia (j := 2) u273 (by decide)
     have x3 : indexAddr? cx 273 (.ptr 2 0) (.p (.int .i64 3)) = some (.ptr 2 3) := ia (j := 3) u273 (by decide)
     have x4 : indexAddr? cx 273 (.ptr 2 0) (.p (.int .i64 4)) = some (.ptr 2 4) := ia (j := 4) u273 (by decide)
     have x5 : indexAddr? cx 273 (.ptr 2 0) (.p (.int .i64 5)) = some (.ptr 2 5) := ia (j := 5) u273 (by decide)
     have x6 : indexAddr? cx 273 (.ptr 2 0) (.p (.int .i64 6)) = some (.ptr 2 6) := ia (j := 6) u273 (by decide)
     have x7 : indexAddr? cx 273 (.ptr 2 0) (.p (.int .i64 7)) = some (.ptr 2 7) := ia (j := 7) u273 (by decide)
     have l0 : load? cx [.cells e (us H ++ (mid ++ us K)), .cells 274 (us (W b 64)), .cells 273 (us [a, b', c, d, e', f, g, k])] 272 (.ptr 2 0) = some (.p (.int .u32 a)) := load_one a272 rfl rfl
     have l1 : load? cx [.cells e (us H ++ (mid ++ us K)), .cells 274 (us (W b 64)), .cells 273 (us [a, b', c, d, e', f, g, k])] 272 (.ptr 2 1) = some (.p (.int .u32 b')) := load_one a272 rfl rfl
     have l2 : load? cx [.cells e (us H ++ (mid ++ us K)), .cells 274 (us (W b 64)), .cells 273 (us [a, b', c, d, e', f, g, k])] 272 (.ptr 2 2) = some (.p (.int .u32 c)) := load_one a272 rfl rfl
     have l3 : load? cx [.cells e (us H ++ (mid ++ us K)), .cells 274 (us (W b 64)), .cells 273 (us [a, b', c, d, e', f, g, k])] 272 (.ptr 2 3) = some (.p (.int .u32 d)) := load_one a272 rfl rfl
     have l4 : load? cx [.cells e (us H ++ (mid ++ us K)), .cells 274 (us (W b 64)), .cells 273 (us [a, b', c, d, e', f, g, k])] 272 (.ptr 2 4) = some (.p (.int .u32 e')) := load_one a272 rfl rfl
     have l5 : load? cx [.cells e (us H ++ (mid ++ us K)), .cells 274 (us (W b 64)), .cells 273 (us [a, b', c, d, e', f, g, k])] 272 (.ptr 2 5) = some (.p (.int .u32 f)) := load_one a272 rfl rfl
     have l6 : load? cx [.cells e (us H ++ (mid ++ us K)), .cells 274 (us (W b 64)), .cells 273 (us [a, b', c, d, e', f, g, k])] 272 (.ptr 2 6) = some (.p (.int .u32 g)) := load_one a272 rfl rfl
     have l7 : load? cx [.cells e (us H ++ (mid ++ us K)), .cells 274 (us (W b 64)), .cells 273 (us [a, b', c, d, e', f, g, k])] 272 (.ptr 2 7) = some (.p (.int .u32 k)) := load_one a272 rfl rfl
     have aK : indexAddr? cx 274 (.ptr 0 10) (.p (.int .i64 (i : Int))) = some (.ptr 0 (10 + i)) := ia u274 (by omega)
     have lK : load? cx [.cells e (us H ++ (mid ++ us K)), .cells 274 (us (W b 64)), .cells 273 (us [a, b', c, d, e', f, g, k])] 272 (.ptr 0 (10 + i)) = some (.p (.int .u32 (K.getD i 0))) := by
      refine load_one a272 rfl ?_
      rw [List.getElem?_append_right (by rw [us_length]; omega), List.getElem?_append_right (by rw [us_length]; omega), us_length, hH, hm, show 10 + i - 8 - 2 = i by omega]
      exact us_get (by omega)
     have aW : indexAddr? cx 274 (.ptr 1 0) (.p (.int .i64 (i : Int))) = some (.ptr 1 i) := by rw [ia u274 (by omega), Nat.zero_add]
     have lW : load? cx [.cells e (us H ++ (mid ++ us K)), .cells 274 (us (W b 64)), .cells 273 (us [a, b', c, d, e', f, g, k])] 272 (.ptr 1 i) = some (.p (.int .u32 ((W b 64).getD i 0))) := load_one a272 rfl (us_get (by rw [W_len]; omega))
     have sw1 := fun v' hv' => sw [a, b', c, d, e', f, g, k] v' (.cells e (us H ++ (mid ++ us K))) rfl hv'
     have sw2 := fun a1 a2 a3 a4 a5 a6 a7 a8 => sw1 [a1, a2, a3, a4, a5, a6, a7, a8] rfl
     simp only [sc232l22, sc232r14, sc232r15, sc232d16_x, sc232r16, sc232d17_x, sc232r17, sc232d18_x, sc232r18, sc232r19, sc232r20, sc232r21, ↓rwA, rwB, rwG, Nat.reduceEqDiff, Nat.reduceAdd, reduceCtorEq, Nat.reduceLT, ↓rwC, rwD, rwI, Nat.reduceSub, Nat.reduceLeDiff, t0, t4, t10, t103, hlt, decide_true, x0, x1, x2, x3, x4, x5, x6, x7, l0, l1, l2, l3, l4, l5, l6, l7, fk, aK, lK, aW, lW, c6, c11, c25, c2, c13, c22, bxor_u, band_u, opD_unxor, unot_u, b273, sw2, hset3_2, hw1, true_and, opD_nilCheck, nilW_ptr]
     refine ⟨_, ?_, i + 1, rfl, ?_, ?_⟩
     ·omega
     ·omega
     ·have : V K (W b 64) H (i + 1) = rnd (K.getD i 0) ((W b 64).getD i 0) [a, b', c, d, e', f, g, k] := by
       show rnd _ _ (V K (W b 64) H i) = _
       rw [hVe]
      rw [this]
      first | rfl | exact ⟨rfl, rfl⟩ | exact ⟨trivial, rfl⟩
    ·obtain rfl : i = 64 := by omega
     have lv : load? cx [.cells e (us H ++ (mid ++ us K)), .cells 274 (us (W b 64)), .cells 273 (us (V K (W b 64) H 64))] 273 (.ptr 2 0) = some (.p (.agg (up (V K (W b 64) H 64)))) := by
      rw [load_whole a273 s273 rfl (by rw [us_length]; exact hV), mkAgg_us]
     simp only [sc232l22, sc232r14, sc232r23, ↓rwA, rwB, rwG, Nat.reduceEqDiff, Nat.reduceAdd, reduceCtorEq, Nat.reduceLT, t0, t4, t10, t103, hlt, decide_false, lv]
     refine xC_loop (fun n t h' d r => ∃ i : Nat, n = 8 - i ∧ i ≤ 8 ∧ d = [] ∧ r = none ∧ t.get 0 = .ptr 0 0 ∧ t.get 184 = .p (.agg (up (V K (W b 64) H 64))) ∧ t.get 185 = .p (.int .i64 (i : Int)) ∧ h' = [.cells e (us (HH (V K (W b 64) H 64) H i) ++ (mid ++ us K)), .cells 274 (us (W b 64)), .cells 273 (us (V K (W b 64) H 64))]) 8 ?_ ?_
     ·refine ⟨0, rfl, by omega, rfl, rfl, ?_⟩
      simp only [↓rwA, rwB, rwG, Nat.reduceEqDiff, Nat.reduceAdd, reduceCtorEq, Nat.reduceLT, true_and, t0]
      first | rfl | exact ⟨rfl, rfl⟩ | exact ⟨trivial, rfl⟩
     ·rintro n t h' d r ⟨i, rfl, hi, rfl, rfl, t0, t184, t185, rfl⟩
      have hw1 : IntKind.wrap .i64 ((i : Int) + 1) = ((i + 1 : Nat) : Int) := by rw [wrap64_id (by omega) (by omega)]; omega
      have hl := HH_len (V K (W b 64) H 64) H i hH
      by_cases hlt : (i : Int) < 8
      ·have hxi : index? cx 273 (.p (.agg (up (V K (W b 64) H 64)))) (.p (.int .i64 (i : Int))) = some (.p (.int .u32 ((V K (W b 64) H 64).getD i 0))) :=
        index_arr u273 s272 a272 (by omega) hlt (by rw [Int.toNat_natCast]; exact up_get (by omega))
       have aH : indexAddr? cx 273 (.ptr 0 0) (.p (.int .i64 (i : Int))) = some (.ptr 0 i) := by rw [ia u273 (by omega), Nat.zero_add]
       have lH : load? cx [.cells e (us (HH (V K (W b 64) H 64) H i) ++ (mid ++ us K)), .cells 274 (us (W b 64)), .cells 273 (us (V K (W b 64) H 64))] 272 (.ptr 0 i) = some (.p (.int .u32 ((HH (V K (W b 64) H 64) H i).getD i 0))) := by
        refine load_one a272 rfl ?_
        rw [List.getElem?_append_left (by rw [us_length]; omega)]
        exact us_get (by omega)
       have sH : ∀ n : Int, store? cx [.cells e (us (HH (V K (W b 64) H 64) H i) ++ (mid ++ us K)), .cells 274 (us (W b 64)), .cells 273 (us (V K (W b 64) H 64))] 272 (.ptr 0 i) (.p (.int .u32 n)) = .ws undefA 0 (.cells e (us ((HH (V K (W b 64) H 64) H i).set i n) ++ (mid ++ us K))) := fun n => by
        rw [store_one s272 rfl rfl (by rw [List.length_append, us_length]; omega), List.set_append_left _ _ (by rw [us_length]; omega), us_set]
       simp only [sc232l28, sc232r24, sc232r25, sc232d26_x, sc232r26, sc232r27, ↓rwA, rwB, rwG, Nat.reduceEqDiff, Nat.reduceAdd, reduceCtorEq, Nat.reduceLT, ↓rwC, rwD, rwI, Nat.reduceSub, Nat.reduceLeDiff, t0, t184, t185, hlt, decide_true, hxi, aH, lH, sH, fa, fb, hset3_0, hw1, true_and, opD_nilCheck, nilW_ptr]
       refine ⟨_, ?_, i + 1, rfl, ?_, ?_⟩
       ·omega
       ·omega
       ·first | rfl | exact ⟨rfl, rfl⟩ | exact ⟨trivial, rfl⟩
      ·obtain rfl : i = 8 := by omega
       simp only [sc232l28, sc232r24, ↓rwA, rwB, rwG, Nat.reduceEqDiff, Nat.reduceAdd, reduceCtorEq, Nat.reduceLT, t0, t184, t185, hlt, decide_false]
       first | rfl | exact ⟨rfl, rfl⟩ | exact ⟨trivial, rfl⟩
end Go.Proofs

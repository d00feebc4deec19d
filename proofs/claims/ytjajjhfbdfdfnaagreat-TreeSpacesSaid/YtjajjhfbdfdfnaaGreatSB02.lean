/- What is proved: slices.Insert of the seat's program, at three types of elements. Conditions: none. -/
import Derived.Test.YtjajjhfbdfdfnaaGreatSA09
import Derived.WalkKit
import Derived.WalkSpells
import Derived.Lib.Walk
import Derived.Lib.SliceRun
import Derived.Shelf.Spec.SlicesInsert
import Derived.Test.YtjajjhfbdfdfnaaGreatProg
import Derived.Test.YtjajjhfbdfdfnaaGreatSB01
set_option linter.all false
namespace Go.Proofs
open Go.RowKit Go.Lib Go.Shelf
set_option maxHeartbeats 2000000 in
set_option maxRecDepth 100000 in
theorem ins195_shift (w w1 w2 : World) (b n c i vb voff vc : Nat) (hi : i < n) (hroom : n + 1 ≤ c) (hc63 : n < 9223372036854775807)
  (hov : ∀ lb cb, (callFunc 220 #[.slice (some ⟨vb, voff, none⟩) 1 vc, .slice (some ⟨b, (i + 1) * 22, none⟩) lb cb]).run Tryz.prog w = .ok (.value (.bool false)) w)
  (hcp1 : ∀ ty dc sc, (Builtin.copy_ #[76, 76] ty #[.slice (some ⟨b, (i + 1) * 22, none⟩) (n - i) dc, .slice (some ⟨b, i * 22, none⟩) (n + 1 - i) sc]).run Tryz.prog w.drew = .ok (goInt ((n - i : Nat) : Int)) w1)
  (hcp2 : ∀ ty dc, (Builtin.copy_ #[76, 76] ty #[.slice (some ⟨b, i * 22, none⟩) (n + 1 - i) dc, .slice (some ⟨vb, voff, none⟩) 1 vc]).run Tryz.prog w1 = .ok (goInt 1) w2) :
  Calls Tryz.prog 195 #[.slice (some ⟨b, 0, none⟩) n c, .int .i64 i, .slice (some ⟨vb, voff, none⟩) 1 vc] w fun e w' =>
   e = .returned (.slice (some ⟨b, 0, none⟩) (n + 1) c) ∧ w' = w2 := by
 have hz2 : ¬ ((i : Int) = (n : Int)) := by omega
 have hw1 : IntKind.i64.wrap ((i : Int) + 1) = (i : Int) + 1 := by rw [IntKind.wrap_i64]; omega
 have hw2 : IntKind.i64.wrap ((n : Int) + 1) = (n : Int) + 1 := by rw [IntKind.wrap_i64]; omega
 have hb1 : (0 : Int) ≤ (i : Int) + 1 := by omega
 have hin : i ≤ n := by omega
 have htn : ((i : Int) + 1).toNat = i + 1 := by omega
 have htn2 : ((n : Int) + 1).toNat = n + 1 := by omega
 have hb2 : ¬ (c = i + 1) := by omega
 have hb3 : (i : Int) ≤ (n : Int) + 1 := by omega
 have hb4 : ¬ (c = i) := by omega
 have mixed : Tryz.prog.follows .mixedOrders = true := by kernel_rfl
 go_enter Tryz.func195, Tryz.ntmps195
 go_wp2_with (simp only [hov])
 go_region_law_o (refine step_copy_runI rfl _ _ 76 76 rfl _ _ (by simp [Act.eval, Act.put]) (by simp [Act.eval, Act.put]) (hcp1 _ _ _) ?_)
 go_wp2_with (at_builtin; refine wpList_copy_runI _ rfl _ _ 76 76 rfl _ _ rfl rfl (hcp2 _ _) ?_)
 go_ret
 exact ⟨rfl, rfl⟩
set_option maxHeartbeats 2000000 in
set_option maxRecDepth 100000 in
theorem ins195_grow (w w1 w2 w3 : World) (b n c i vb voff vc g G : Nat) (hi : i < n) (hnc : n ≤ c) (hroom : c < n + 1) (hc63 : n < 9223372036854775807) (hG : n + 1 ≤ G)
  (hrz : ∀ ty, (Builtin.append_ #[76, 3] ty #[.slice (some ⟨b, 0, none⟩) i c, .int .i64 ((n : Int) + 1 - (i : Int))]).run Tryz.prog w = .ok (.slice (some ⟨g, 0, none⟩) (n + 1) G) w1)
  (hcpA : ∀ ty dc, (Builtin.copy_ #[76, 76] ty #[.slice (some ⟨g, i * 22, none⟩) (n + 1 - i) dc, .slice (some ⟨vb, voff, none⟩) 1 vc]).run Tryz.prog w1 = .ok (goInt 1) w2)
  (hcpB : ∀ ty dc sc, (Builtin.copy_ #[76, 76] ty #[.slice (some ⟨g, (i + 1) * 22, none⟩) (n - i) dc, .slice (some ⟨b, i * 22, none⟩) (n - i) sc]).run Tryz.prog w2.drew = .ok (goInt ((n - i : Nat) : Int)) w3) :
  Calls Tryz.prog 195 #[.slice (some ⟨b, 0, none⟩) n c, .int .i64 i, .slice (some ⟨vb, voff, none⟩) 1 vc] w fun e w' =>
   e = .returned (.slice (some ⟨g, 0, none⟩) (n + 1) G) ∧ w' = w3 := by
 have hz2 : ¬ ((i : Int) = (n : Int)) := by omega
 have hz3 : (c : Int) < (n : Int) + 1 := by omega
 have hw1 : IntKind.i64.wrap ((i : Int) + 1) = (i : Int) + 1 := by rw [IntKind.wrap_i64]; omega
 have hw2 : IntKind.i64.wrap ((n : Int) + 1) = (n : Int) + 1 := by rw [IntKind.wrap_i64]; omega
 have hw3 : IntKind.i64.wrap ((n : Int) + 1 - (i : Int)) = (n : Int) + 1 - (i : Int) := by rw [IntKind.wrap_i64]; omega
 have hb1 : (0 : Int) ≤ (i : Int) + 1 := by omega
 have hin : i ≤ n := by omega
 have htn : ((i : Int) + 1).toNat = i + 1 := by omega
 have hb3 : (i : Int) ≤ (n : Int) + 1 := by omega
 have hb4 : ¬ (c = i) := by omega
 have hGi : ¬ (G = i) := by omega
 have hGim : ¬ (G = i + 1) := by omega
 have mixed : Tryz.prog.follows .mixedOrders = true := by kernel_rfl
 go_enter Tryz.func195, Tryz.ntmps195
 go_wp2_with (first
  | (at_builtin; refine Lib.wpList_append_run _ rfl _ _ _ _ rfl _ _ rfl rfl _ _ (hrz _) ?_)
  | (at_builtin; refine wpList_copy_runI _ rfl _ _ 76 76 rfl _ _ rfl rfl (hcpA _ _) ?_))
 go_region_law_o (refine step_copy_runI rfl _ _ 76 76 rfl _ _ (by simp [Act.eval, Act.put]) (by simp [Act.eval, Act.put]) (hcpB _ _ _) ?_)
 go_wp2
 go_ret
 exact ⟨rfl, rfl⟩
set_option maxHeartbeats 2000000 in
set_option maxRecDepth 100000 in
theorem ins195_end (w w1 : World) (base : Option Addr) (n c vb voff vc : Nat) (r : Value) (hnc : n ≤ c) (hc63 : n < 9223372036854775807)
  (happ : ∀ ty, (Builtin.append_ #[76, 76] ty #[.slice base n c, .slice (some ⟨vb, voff, none⟩) 1 vc]).run Tryz.prog w = .ok r w1) :
  Calls Tryz.prog 195 #[.slice base n c, .int .i64 n, .slice (some ⟨vb, voff, none⟩) 1 vc] w fun e w' => e = .returned r ∧ w' = w1 := by
 have mixed : Tryz.prog.follows .mixedOrders = true := by kernel_rfl
 cases base with
 | none =>
  go_enter Tryz.func195, Tryz.ntmps195
  go_wp2_with (at_builtin; refine Lib.wpList_append_run _ rfl _ _ _ _ rfl _ _ rfl rfl _ _ (happ _) ?_)
  all_goals (go_ret; exact ⟨rfl, rfl⟩)
 | some a =>
  go_enter Tryz.func195, Tryz.ntmps195
  go_wp2_with (at_builtin; refine Lib.wpList_append_run _ rfl _ _ _ _ rfl _ _ rfl rfl _ _ (happ _) ?_)
  all_goals (go_ret; exact ⟨rfl, rfl⟩)
set_option maxHeartbeats 2000000 in
set_option maxRecDepth 100000 in
theorem ins144_shift (w w1 w2 : World) (b n c i vb voff vc : Nat) (hi : i < n) (hroom : n + 1 ≤ c) (hc63 : n < 9223372036854775807)
  (hov : ∀ lb cb, (callFunc 181 #[.slice (some ⟨vb, voff, none⟩) 1 vc, .slice (some ⟨b, (i + 1), none⟩) lb cb]).run Tryz.prog w = .ok (.value (.bool false)) w)
  (hcp1 : ∀ ty dc sc, (Builtin.copy_ #[39, 39] ty #[.slice (some ⟨b, (i + 1), none⟩) (n - i) dc, .slice (some ⟨b, i, none⟩) (n + 1 - i) sc]).run Tryz.prog w.drew = .ok (goInt ((n - i : Nat) : Int)) w1)
  (hcp2 : ∀ ty dc, (Builtin.copy_ #[39, 39] ty #[.slice (some ⟨b, i, none⟩) (n + 1 - i) dc, .slice (some ⟨vb, voff, none⟩) 1 vc]).run Tryz.prog w1 = .ok (goInt 1) w2) :
  Calls Tryz.prog 144 #[.slice (some ⟨b, 0, none⟩) n c, .int .i64 i, .slice (some ⟨vb, voff, none⟩) 1 vc] w fun e w' =>
   e = .returned (.slice (some ⟨b, 0, none⟩) (n + 1) c) ∧ w' = w2 := by
 have hz2 : ¬ ((i : Int) = (n : Int)) := by omega
 have hw1 : IntKind.i64.wrap ((i : Int) + 1) = (i : Int) + 1 := by rw [IntKind.wrap_i64]; omega
 have hw2 : IntKind.i64.wrap ((n : Int) + 1) = (n : Int) + 1 := by rw [IntKind.wrap_i64]; omega
 have hb1 : (0 : Int) ≤ (i : Int) + 1 := by omega
 have hin : i ≤ n := by omega
 have htn : ((i : Int) + 1).toNat = i + 1 := by omega
 have htn2 : ((n : Int) + 1).toNat = n + 1 := by omega
 have hb2 : ¬ (c = i + 1) := by omega
 have hb3 : (i : Int) ≤ (n : Int) + 1 := by omega
 have hb4 : ¬ (c = i) := by omega
 have mixed : Tryz.prog.follows .mixedOrders = true := by kernel_rfl
 go_enter Tryz.func144, Tryz.ntmps144
 go_wp2_with (simp only [hov])
 go_region_law_o (refine step_copy_runI rfl _ _ 39 39 rfl _ _ (by simp [Act.eval, Act.put]) (by simp [Act.eval, Act.put]) (hcp1 _ _ _) ?_)
 go_wp2_with (at_builtin; refine wpList_copy_runI _ rfl _ _ 39 39 rfl _ _ rfl rfl (hcp2 _ _) ?_)
 go_ret
 exact ⟨rfl, rfl⟩
set_option maxHeartbeats 2000000 in
set_option maxRecDepth 100000 in
theorem ins144_grow (w w1 w2 w3 : World) (b n c i vb voff vc g G : Nat) (hi : i < n) (hnc : n ≤ c) (hroom : c < n + 1) (hc63 : n < 9223372036854775807) (hG : n + 1 ≤ G)
  (hrz : ∀ ty, (Builtin.append_ #[39, 3] ty #[.slice (some ⟨b, 0, none⟩) i c, .int .i64 ((n : Int) + 1 - (i : Int))]).run Tryz.prog w = .ok (.slice (some ⟨g, 0, none⟩) (n + 1) G) w1)
  (hcpA : ∀ ty dc, (Builtin.copy_ #[39, 39] ty #[.slice (some ⟨g, i, none⟩) (n + 1 - i) dc, .slice (some ⟨vb, voff, none⟩) 1 vc]).run Tryz.prog w1 = .ok (goInt 1) w2)
  (hcpB : ∀ ty dc sc, (Builtin.copy_ #[39, 39] ty #[.slice (some ⟨g, (i + 1), none⟩) (n - i) dc, .slice (some ⟨b, i, none⟩) (n - i) sc]).run Tryz.prog w2.drew = .ok (goInt ((n - i : Nat) : Int)) w3) :
  Calls Tryz.prog 144 #[.slice (some ⟨b, 0, none⟩) n c, .int .i64 i, .slice (some ⟨vb, voff, none⟩) 1 vc] w fun e w' =>
   e = .returned (.slice (some ⟨g, 0, none⟩) (n + 1) G) ∧ w' = w3 := by
 have hz2 : ¬ ((i : Int) = (n : Int)) := by omega
 have hz3 : (c : Int) < (n : Int) + 1 := by omega
 have hw1 : IntKind.i64.wrap ((i : Int) + 1) = (i : Int) + 1 := by rw [IntKind.wrap_i64]; omega
 have hw2 : IntKind.i64.wrap ((n : Int) + 1) = (n : Int) + 1 := by rw [IntKind.wrap_i64]; omega
 have hw3 : IntKind.i64.wrap ((n : Int) + 1 - (i : Int)) = (n : Int) + 1 - (i : Int) := by rw [IntKind.wrap_i64]; omega
 have hb1 : (0 : Int) ≤ (i : Int) + 1 := by omega
 have hin : i ≤ n := by omega
 have htn : ((i : Int) + 1).toNat = i + 1 := by omega
 have hb3 : (i : Int) ≤ (n : Int) + 1 := by omega
 have hb4 : ¬ (c = i) := by omega
 have hGi : ¬ (G = i) := by omega
 have hGim : ¬ (G = i + 1) := by omega
 have mixed : Tryz.prog.follows .mixedOrders = true := by kernel_rfl
 go_enter Tryz.func144, Tryz.ntmps144
 go_wp2_with (first
  | (at_builtin; refine Lib.wpList_append_run _ rfl _ _ _ _ rfl _ _ rfl rfl _ _ (hrz _) ?_)
  | (at_builtin; refine wpList_copy_runI _ rfl _ _ 39 39 rfl _ _ rfl rfl (hcpA _ _) ?_))
 go_region_law_o (refine step_copy_runI rfl _ _ 39 39 rfl _ _ (by simp [Act.eval, Act.put]) (by simp [Act.eval, Act.put]) (hcpB _ _ _) ?_)
 go_wp2
 go_ret
 exact ⟨rfl, rfl⟩
set_option maxHeartbeats 2000000 in
set_option maxRecDepth 100000 in
theorem ins144_end (w w1 : World) (base : Option Addr) (n c vb voff vc : Nat) (r : Value) (hnc : n ≤ c) (hc63 : n < 9223372036854775807)
  (happ : ∀ ty, (Builtin.append_ #[39, 39] ty #[.slice base n c, .slice (some ⟨vb, voff, none⟩) 1 vc]).run Tryz.prog w = .ok r w1) :
  Calls Tryz.prog 144 #[.slice base n c, .int .i64 n, .slice (some ⟨vb, voff, none⟩) 1 vc] w fun e w' => e = .returned r ∧ w' = w1 := by
 have mixed : Tryz.prog.follows .mixedOrders = true := by kernel_rfl
 cases base with
 | none =>
  go_enter Tryz.func144, Tryz.ntmps144
  go_wp2_with (at_builtin; refine Lib.wpList_append_run _ rfl _ _ _ _ rfl _ _ rfl rfl _ _ (happ _) ?_)
  all_goals (go_ret; exact ⟨rfl, rfl⟩)
 | some a =>
  go_enter Tryz.func144, Tryz.ntmps144
  go_wp2_with (at_builtin; refine Lib.wpList_append_run _ rfl _ _ _ _ rfl _ _ rfl rfl _ _ (happ _) ?_)
  all_goals (go_ret; exact ⟨rfl, rfl⟩)
set_option maxHeartbeats 2000000 in
set_option maxRecDepth 100000 in
theorem ins68_shift (w w1 w2 : World) (b n c i vb voff vc : Nat) (hi : i < n) (hroom : n + 1 ≤ c) (hc63 : n < 9223372036854775807)
  (hov : ∀ lb cb, (callFunc 113 #[.slice (some ⟨vb, voff, none⟩) 1 vc, .slice (some ⟨b, (i + 1), none⟩) lb cb]).run Tryz.prog w = .ok (.value (.bool false)) w)
  (hcp1 : ∀ ty dc sc, (Builtin.copy_ #[119, 119] ty #[.slice (some ⟨b, (i + 1), none⟩) (n - i) dc, .slice (some ⟨b, i, none⟩) (n + 1 - i) sc]).run Tryz.prog w.drew = .ok (goInt ((n - i : Nat) : Int)) w1)
  (hcp2 : ∀ ty dc, (Builtin.copy_ #[119, 22] ty #[.slice (some ⟨b, i, none⟩) (n + 1 - i) dc, .slice (some ⟨vb, voff, none⟩) 1 vc]).run Tryz.prog w1 = .ok (goInt 1) w2) :
  Calls Tryz.prog 68 #[.slice (some ⟨b, 0, none⟩) n c, .int .i64 i, .slice (some ⟨vb, voff, none⟩) 1 vc] w fun e w' =>
   e = .returned (.slice (some ⟨b, 0, none⟩) (n + 1) c) ∧ w' = w2 := by
 have hz2 : ¬ ((i : Int) = (n : Int)) := by omega
 have hw1 : IntKind.i64.wrap ((i : Int) + 1) = (i : Int) + 1 := by rw [IntKind.wrap_i64]; omega
 have hw2 : IntKind.i64.wrap ((n : Int) + 1) = (n : Int) + 1 := by rw [IntKind.wrap_i64]; omega
 have hb1 : (0 : Int) ≤ (i : Int) + 1 := by omega
 have hin : i ≤ n := by omega
 have htn : ((i : Int) + 1).toNat = i + 1 := by omega
 have htn2 : ((n : Int) + 1).toNat = n + 1 := by omega
 have hb2 : ¬ (c = i + 1) := by omega
 have hb3 : (i : Int) ≤ (n : Int) + 1 := by omega
 have hb4 : ¬ (c = i) := by omega
 have mixed : Tryz.prog.follows .mixedOrders = true := by kernel_rfl
 go_enter Tryz.func68, Tryz.ntmps68
 go_wp2_with (simp only [hov])
 go_region_law_o (refine step_copy_runI rfl _ _ 119 119 rfl _ _ (by simp [Act.eval, Act.put]) (by simp [Act.eval, Act.put]) (hcp1 _ _ _) ?_)
 go_wp2_with (at_builtin; refine wpList_copy_runI _ rfl _ _ 119 22 rfl _ _ rfl rfl (hcp2 _ _) ?_)
 go_ret
 exact ⟨rfl, rfl⟩
set_option maxHeartbeats 2000000 in
set_option maxRecDepth 100000 in
theorem ins68_grow (w w1 w2 w3 : World) (b n c i vb voff vc g G : Nat) (hi : i < n) (hnc : n ≤ c) (hroom : c < n + 1) (hc63 : n < 9223372036854775807) (hG : n + 1 ≤ G)
  (hrz : ∀ ty, (Builtin.append_ #[119, 3] ty #[.slice (some ⟨b, 0, none⟩) i c, .int .i64 ((n : Int) + 1 - (i : Int))]).run Tryz.prog w = .ok (.slice (some ⟨g, 0, none⟩) (n + 1) G) w1)
  (hcpA : ∀ ty dc, (Builtin.copy_ #[119, 22] ty #[.slice (some ⟨g, i, none⟩) (n + 1 - i) dc, .slice (some ⟨vb, voff, none⟩) 1 vc]).run Tryz.prog w1 = .ok (goInt 1) w2)
  (hcpB : ∀ ty dc sc, (Builtin.copy_ #[119, 119] ty #[.slice (some ⟨g, (i + 1), none⟩) (n - i) dc, .slice (some ⟨b, i, none⟩) (n - i) sc]).run Tryz.prog w2.drew = .ok (goInt ((n - i : Nat) : Int)) w3) :
  Calls Tryz.prog 68 #[.slice (some ⟨b, 0, none⟩) n c, .int .i64 i, .slice (some ⟨vb, voff, none⟩) 1 vc] w fun e w' =>
   e = .returned (.slice (some ⟨g, 0, none⟩) (n + 1) G) ∧ w' = w3 := by
 have hz2 : ¬ ((i : Int) = (n : Int)) := by omega
 have hz3 : (c : Int) < (n : Int) + 1 := by omega
 have hw1 : IntKind.i64.wrap ((i : Int) + 1) = (i : Int) + 1 := by rw [IntKind.wrap_i64]; omega
 have hw2 : IntKind.i64.wrap ((n : Int) + 1) = (n : Int) + 1 := by rw [IntKind.wrap_i64]; omega
 have hw3 : IntKind.i64.wrap ((n : Int) + 1 - (i : Int)) = (n : Int) + 1 - (i : Int) := by rw [IntKind.wrap_i64]; omega
 have hb1 : (0 : Int) ≤ (i : Int) + 1 := by omega
 have hin : i ≤ n := by omega
 have htn : ((i : Int) + 1).toNat = i + 1 := by omega
 have hb3 : (i : Int) ≤ (n : Int) + 1 := by omega
 have hb4 : ¬ (c = i) := by omega
 have hGi : ¬ (G = i) := by omega
 have hGim : ¬ (G = i + 1) := by omega
 have mixed : Tryz.prog.follows .mixedOrders = true := by kernel_rfl
 go_enter Tryz.func68, Tryz.ntmps68
 go_wp2_with (first
  | (at_builtin; refine Lib.wpList_append_run _ rfl _ _ _ _ rfl _ _ rfl rfl _ _ (hrz _) ?_)
  | (at_builtin; refine wpList_copy_runI _ rfl _ _ 119 22 rfl _ _ rfl rfl (hcpA _ _) ?_))
 go_region_law_o (refine step_copy_runI rfl _ _ 119 119 rfl _ _ (by simp [Act.eval, Act.put]) (by simp [Act.eval, Act.put]) (hcpB _ _ _) ?_)
 go_wp2
 go_ret
 exact ⟨rfl, rfl⟩
set_option maxHeartbeats 2000000 in
set_option maxRecDepth 100000 in
theorem ins68_end (w w1 : World) (base : Option Addr) (n c vb voff vc : Nat) (r : Value) (hnc : n ≤ c) (hc63 : n < 9223372036854775807)
  (happ : ∀ ty, (Builtin.append_ #[119, 22] ty #[.slice base n c, .slice (some ⟨vb, voff, none⟩) 1 vc]).run Tryz.prog w = .ok r w1) :
  Calls Tryz.prog 68 #[.slice base n c, .int .i64 n, .slice (some ⟨vb, voff, none⟩) 1 vc] w fun e w' => e = .returned r ∧ w' = w1 := by
 have mixed : Tryz.prog.follows .mixedOrders = true := by kernel_rfl
 cases base with
 | none =>
  go_enter Tryz.func68, Tryz.ntmps68
  go_wp2_with (at_builtin; refine Lib.wpList_append_run _ rfl _ _ _ _ rfl _ _ rfl rfl _ _ (happ _) ?_)
  all_goals (go_ret; exact ⟨rfl, rfl⟩)
 | some a =>
  go_enter Tryz.func68, Tryz.ntmps68
  go_wp2_with (at_builtin; refine Lib.wpList_append_run _ rfl _ _ _ _ rfl _ _ rfl rfl _ _ (happ _) ?_)
  all_goals (go_ret; exact ⟨rfl, rfl⟩)
theorem insW195 : Go.Ai.InsWalks Tryz.prog 195 76 76 220 22 where
 enter vs w := by
  have e1 : (program : Sem Program).run Tryz.prog w = .ok Tryz.prog w := rfl
  unfold callFunc
  rw [Sem.run_bind, e1]
  have hname : ¬Tryz.f195.name = "runtime.NumGoroutine" := by
   have : (Tryz.f195.name == "runtime.NumGoroutine") = false := rfl
   simpa using this
  have hb : Tryz.f195.body.isNone = false := rfl
  have hb' : Tryz.f195.body ≠ none := by intro h; rw [h] at hb; cases hb
  simp [Tryz.func195, hname, hb']
 shift w w1 w2 b n c i vb voff vc h1 h2 h3 h4 h5 h6 := ins195_shift w w1 w2 b n c i vb voff vc h1 h2 h3 h4 h5 h6
 grow w w1 w2 w3 b n c i vb voff vc g G h1 h2 h3 h4 h5 h6 h7 h8 := ins195_grow w w1 w2 w3 b n c i vb voff vc g G h1 h2 h3 h4 h5 h6 h7 h8
 fin w w1 base n c vb voff vc r h1 h2 h3 := ins195_end w w1 base n c vb voff vc r h1 h2 h3
theorem insW144 : Go.Ai.InsWalks Tryz.prog 144 39 39 181 1 where
 enter vs w := by
  have e1 : (program : Sem Program).run Tryz.prog w = .ok Tryz.prog w := rfl
  unfold callFunc
  rw [Sem.run_bind, e1]
  have hname : ¬Tryz.f144.name = "runtime.NumGoroutine" := by
   have : (Tryz.f144.name == "runtime.NumGoroutine") = false := rfl
   simpa using this
  have hb : Tryz.f144.body.isNone = false := rfl
  have hb' : Tryz.f144.body ≠ none := by intro h; rw [h] at hb; cases hb
  simp [Tryz.func144, hname, hb']
 shift w w1 w2 b n c i vb voff vc h1 h2 h3 h4 h5 h6 := ins144_shift w w1 w2 b n c i vb voff vc h1 h2 h3 (by simpa using h4) (by simpa using h5) (by simpa using h6)
 grow w w1 w2 w3 b n c i vb voff vc g G h1 h2 h3 h4 h5 h6 h7 h8 := ins144_grow w w1 w2 w3 b n c i vb voff vc g G h1 h2 h3 h4 h5 h6 (by simpa using h7) (by simpa using h8)
 fin w w1 base n c vb voff vc r h1 h2 h3 := ins144_end w w1 base n c vb voff vc r h1 h2 h3
theorem insW68 : Go.Ai.InsWalks Tryz.prog 68 119 22 113 1 where
 enter vs w := by
  have e1 : (program : Sem Program).run Tryz.prog w = .ok Tryz.prog w := rfl
  unfold callFunc
  rw [Sem.run_bind, e1]
  have hname : ¬Tryz.f68.name = "runtime.NumGoroutine" := by
   have : (Tryz.f68.name == "runtime.NumGoroutine") = false := rfl
   simpa using this
  have hb : Tryz.f68.body.isNone = false := rfl
  have hb' : Tryz.f68.body ≠ none := by intro h; rw [h] at hb; cases hb
  simp [Tryz.func68, hname, hb']
 shift w w1 w2 b n c i vb voff vc h1 h2 h3 h4 h5 h6 := ins68_shift w w1 w2 b n c i vb voff vc h1 h2 h3 (by simpa using h4) (by simpa using h5) (by simpa using h6)
 grow w w1 w2 w3 b n c i vb voff vc g G h1 h2 h3 h4 h5 h6 h7 h8 := ins68_grow w w1 w2 w3 b n c i vb voff vc g G h1 h2 h3 h4 h5 h6 (by simpa using h7) (by simpa using h8)
 fin w w1 base n c vb voff vc r h1 h2 h3 := ins68_end w w1 base n c vb voff vc r h1 h2 h3
end Go.Proofs
namespace Go.Proofs
open Go Go.Ai
set_option maxRecDepth 1000000
noncomputable def insOrc : Orc := orElse 195 (insO cx 50 22 80) (orElse 144 (insO cx 3 1 8) (orElse 68 (insO cx 9 1 16) (fun _ _ _ => none)))
theorem insOrc_ok : OrcOk cx Tryz.prog insOrc := by
  refine orElse_ok (orElse_ok (orElse_ok (noneOrc_ok _ _) ?_) ?_) ?_
  · intro args h e h' ho
    obtain ⟨z0, hz, hl⟩ : ∃ z0, zero? cx 9 = some z0 ∧ z0.cells.length = 1 := by
      cases hz : zero? cx 9 with
      | none => have : (zero? cx 9).isSome = true := by kernel_rfl
                rw [hz] at this; cases this
      | some z => refine ⟨z, rfl, ?_⟩
                  have : (zero? cx 9).map (fun z => z.cells.length) = some 1 := by kernel_rfl
                  rw [hz] at this; simpa using this
    exact insO_ok (ti := Tryz.t9) cx_ok insW68 (by kernel_rfl) (by kernel_rfl) (by kernel_rfl) (by kernel_rfl) rfl rfl rfl (by decide) hz hl (by decide) ho
  · intro args h e h' ho
    obtain ⟨z0, hz, hl⟩ : ∃ z0, zero? cx 3 = some z0 ∧ z0.cells.length = 1 := by
      cases hz : zero? cx 3 with
      | none => have : (zero? cx 3).isSome = true := by kernel_rfl
                rw [hz] at this; cases this
      | some z => refine ⟨z, rfl, ?_⟩
                  have : (zero? cx 3).map (fun z => z.cells.length) = some 1 := by kernel_rfl
                  rw [hz] at this; simpa using this
    exact insO_ok (ti := Tryz.t3) cx_ok insW144 (by kernel_rfl) (by kernel_rfl) (by kernel_rfl) (by kernel_rfl) rfl rfl rfl (by decide) hz hl (by decide) ho
  · intro args h e h' ho
    obtain ⟨z0, hz, hl⟩ : ∃ z0, zero? cx 50 = some z0 ∧ z0.cells.length = 22 := by
      cases hz : zero? cx 50 with
      | none => have : (zero? cx 50).isSome = true := by kernel_rfl
                rw [hz] at this; cases this
      | some z => refine ⟨z, rfl, ?_⟩
                  have : (zero? cx 50).map (fun z => z.cells.length) = some 22 := by kernel_rfl
                  rw [hz] at this; simpa using this
    exact insO_ok (ti := Tryz.t50) cx_ok insW195 (by kernel_rfl) (by kernel_rfl) (by kernel_rfl) (by kernel_rfl) rfl rfl rfl (by decide) hz hl (by decide) ho
end Go.Proofs

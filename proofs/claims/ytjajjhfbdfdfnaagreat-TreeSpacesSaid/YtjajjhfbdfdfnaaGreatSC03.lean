/- What is proved: that contract may be taken in place of runs, made quick for the kernel. Conditions: none. -/
import Derived.Test.YtjajjhfbdfdfnaaGreatSC02
import Derived.Test.YtjajjhfbdfdfnaaGreatSA10
import Derived.Test.YtjajjhfbdfdfnaaGreatSB08
set_option linter.all false
set_option maxRecDepth 100000
namespace Go.Proofs
open Go Go.Ai
def wrdF (b : List UInt8) (w : List Int) (i : Nat) : Int :=
 cond (Nat.blt i 16) (orF (orF (orF (slF (.ofNat (b.getD (Nat.mul 4 i) 0).toNat) 24) (slF (.ofNat (b.getD (Nat.add (Nat.mul 4 i) 1) 0).toNat) 16)) (slF (.ofNat (b.getD (Nat.add (Nat.mul 4 i) 2) 0).toNat) 8)) (.ofNat (b.getD (Nat.add (Nat.mul 4 i) 3) 0).toNat))
  (forceI (w.getD (Nat.sub i 15) 0) fun x => forceI (w.getD (Nat.sub i 2) 0) fun y =>
   adF (adF (adF (w.getD (Nat.sub i 16) 0) (xrF (xrF (rotF x 25) (rotF x 14)) (srF x 3))) (w.getD (Nat.sub i 7) 0)) (xrF (xrF (rotF y 15) (rotF y 13)) (srF y 10)))
theorem byt_eq (b i) : byt b i = Int.ofNat (b.getD i 0).toNat := by
 unfold byt
 exact wrapU_lt (Nat.lt_of_lt_of_le (UInt8.toNat_lt _) (by decide))
theorem wrdF_eq (b w i) : wrdF b w i = wrd b w i := by
 unfold wrdF wrd
 by_cases h : i < 16
 ·rw [if_pos h, show Nat.blt i 16 = true from Nat.ble_eq_true_of_le h]
  simp only [cond, orF_eq, slF_eq, byt_eq]; rfl
 ·rw [if_neg h, show Nat.blt i 16 = false from Bool.eq_false_iff.2 fun q => h (Nat.le_of_ble_eq_true q)]
  simp only [cond, forceI_eq, adF_eq, xrF_eq, rotF_eq, srF_eq]; rfl
noncomputable def goW {R : Type} (b : List UInt8) (n : Nat) : Nat → List Int → (List Int → R) → R :=
 Nat.rec (motive := fun _ => Nat → List Int → (List Int → R) → R) (fun _ w f => f w)
  (fun _ ih i w f => forceI (wrdF b w i) fun x => lnfI (w.set i x) fun w => forceN (Nat.succ i) fun i => ih i w f) n
theorem goW_eq {R : Type} (b) : ∀ (n i : Nat) (f : List Int → R), goW b n i (W b i) f = f (W b (i + n)) := by
 intro n
 induction n with
 | zero => intro i f; rfl
 | succ n ih =>
  intro i f
  show forceI (wrdF b (W b i) i) (fun x => lnfI ((W b i).set i x) fun w => forceN (Nat.succ i) fun i => goW b n i w f) = _
  rw [forceI_eq, lnfI_eq, forceN_eq, wrdF_eq]
  show goW b n (i + 1) (W b (i + 1)) f = _
  rw [ih, show i + 1 + n = i + (n + 1) by omega]
noncomputable def rndF {R : Type} (k w : Int) (v : List Int) (F : List Int → R) : R :=
 match v with
 | [a, b, c, d, e, f, g, h] =>
  forceI (adF (adF (adF (adF h (xrF (xrF (rotF e 26) (rotF e 21)) (rotF e 7))) (xrF (anF e f) (anF (ntF e) g))) k) w) fun t1 =>
  forceI (adF t1 (adF (xrF (xrF (rotF a 30) (rotF a 19)) (rotF a 10)) (xrF (xrF (anF a b) (anF a c)) (anF b c)))) fun x =>
  forceI (adF d t1) fun y => F [x, a, b, c, y, e, f, g]
 | v => F v
theorem rndF_eq {R : Type} (k w v) (F : List Int → R) : rndF k w v F = F (rnd k w v) := by
 match v with
 | [a, b, c, d, e, f, g, h] =>
  simp only [rndF, rnd, forceI_eq, adF_eq, xrF_eq, rotF_eq, anF_eq, ntF_eq]
 | [] | [_] | [_, _] | [_, _, _] | [_, _, _, _] | [_, _, _, _, _] | [_, _, _, _, _, _] | [_, _, _, _, _, _, _] | _ :: _ :: _ :: _ :: _ :: _ :: _ :: _ :: _ :: _ => rfl
noncomputable def goV {R : Type} (ks ws : List Int) (n : Nat) : Nat → List Int → (List Int → R) → R :=
 Nat.rec (motive := fun _ => Nat → List Int → (List Int → R) → R) (fun _ v f => f v)
  (fun _ ih i v f => rndF (ks.getD i 0) (ws.getD i 0) v fun v => forceN (Nat.succ i) fun i => ih i v f) n
theorem goV_eq {R : Type} (ks ws v) : ∀ (n i : Nat) (f : List Int → R), goV ks ws n i (V ks ws v i) f = f (V ks ws v (i + n)) := by
 intro n
 induction n with
 | zero => intro i f; rfl
 | succ n ih =>
  intro i f
  show rndF (ks.getD i 0) (ws.getD i 0) (V ks ws v i) (fun v => forceN (Nat.succ i) fun i => goV ks ws n i v f) = _
  rw [rndF_eq, forceN_eq]
  show goV ks ws n (i + 1) (V ks ws v (i + 1)) f = _
  rw [ih, show i + 1 + n = i + (n + 1) by omega]
noncomputable def goH {R : Type} (v : List Int) (n : Nat) : Nat → List Int → (List Int → R) → R :=
 Nat.rec (motive := fun _ => Nat → List Int → (List Int → R) → R) (fun _ w f => f w)
  (fun _ ih i w f => lnfI (w.set i (adF (w.getD i 0) (v.getD i 0))) fun w => forceN (Nat.succ i) fun i => ih i w f) n
theorem goH_eq {R : Type} (v h) : ∀ (n i : Nat) (f : List Int → R), goH v n i (HH v h i) f = f (HH v h (i + n)) := by
 intro n
 induction n with
 | zero => intro i f; rfl
 | succ n ih =>
  intro i f
  show lnfI ((HH v h i).set i (adF ((HH v h i).getD i 0) (v.getD i 0))) (fun w => forceN (Nat.succ i) fun i => goH v n i w f) = _
  rw [lnfI_eq, forceN_eq, adF_eq]
  show goH v n (i + 1) (HH v h (i + 1)) f = _
  rw [ih, show i + 1 + n = i + (n + 1) by omega]
noncomputable def blkGo (e : TypeId) (b : List UInt8) (H K : List Int) (m1 m2 : AV) : Option (AEnd × List Ob) :=
 lnfI (List.replicate 64 0) fun w0 => goW b 64 0 w0 fun w => goV K w 64 0 H fun v => goH v 8 0 H fun hh =>
  lnf (us hh ++ ([m1, m2] ++ us K)) fun cs => lnf (us w) fun w => lnf (us v) fun v => some (.ret (.tup []), [.cells e cs, .cells 274 w, .cells 273 v])
theorem blkGo_eq (e b H K m1 m2) : blkGo e b H K m1 m2 = some (.ret (.tup []), blkEnd e b H K [m1, m2]) := by
 unfold blkGo
 rw [lnfI_eq]
 show goW b 64 0 (W b 0) _ = _
 rw [goW_eq]
 show goV K (W b 64) 64 0 (V K (W b 64) H 0) _ = _
 rw [goV_eq]
 show goH (V K (W b 64) H 64) 8 0 (HH (V K (W b 64) H 64) H 0) _ = _
 rw [goH_eq]
 simp only [lnf_eq, Nat.zero_add]
 rfl
noncomputable def blkO (args : List AV) (h : List Ob) : Option (AEnd × List Ob) :=
 match args with
 | [] => none
 | a :: rest => (match rest with
  | [] => none
  | s :: l => (match l with
   | _ :: _ => none
   | [] => (match a with
    | .ptr i o => cond (Nat.beq i 0 && Nat.beq o 0) (match s with
     | .p q => (match q with
      | .str b => cond (Nat.beq b.length 64) (match h with
       | [] => none
       | ob :: l => (match l with
        | _ :: _ => none
        | [] => (match ob with
         | .cells e cs => (match rdU 8 cs with
          | some x => (match x with
           | (H, r) => (match r with
            | m1 :: m2 :: r => (match rdU 64 r with
             | some x => (match x with
              | (K, r) => (match r with | [] => blkGo e b H K m1 m2 | _ => none))
             | none => none)
            | _ => none))
          | none => none)
         | _ => none))) none
      | _ => none)
     | _ => none) none
    | _ => none)))
theorem o0_ok : OrcOk cx Tryz.prog o0 := noneOrc_ok _ _
theorem blkO_ok {args h e h'} (H : blkO args h = some (e, h')) : CallAt cx Tryz.prog (.fn 232 args) h none e h' none := by
 unfold blkO at H
 split at H
 ·cases H
 rename_i a rest
 split at H
 ·cases H
 rename_i s l
 split at H
 ·cases H
 split at H
 ·rename_i i o
  cases hio : (Nat.beq i 0 && Nat.beq o 0) with
  | false => rw [hio] at H; cases H
  | true =>
   rw [hio] at H
   simp only [Bool.and_eq_true, Nat.beq_eq] at hio
   obtain ⟨rfl, rfl⟩ := hio
   simp only [cond] at H
   split at H
   ·split at H
    ·rename_i b
     cases hb : Nat.beq b.length 64 with
     | false => rw [hb] at H; cases H
     | true =>
      rw [hb] at H
      have hb := Nat.eq_of_beq_eq_true hb
      simp only at H
      split at H
      ·cases H
      split at H
      ·cases H
      split at H
      ·rename_i e0 cs
       split at H
       ·rename_i H0 r hx
        split at H
        ·rename_i m1 m2 r
         split at H
         ·rename_i K r' hx2
          split at H
          ·obtain ⟨rfl, h8⟩ := rdU_ok hx
           obtain ⟨rfl, h64⟩ := rdU_ok hx2
           rw [blkGo_eq] at H
           cases H
           rename_i heq
           rw [r, heq, List.append_nil]
           obtain ⟨e1, h1, ⟨k0, hk⟩, rfl, rfl⟩ := blk_ct (e := e0) (b := b) (mid := [_, _]) hb h8 h64 rfl
           exact callN_ok cx_ok o0_ok k0 _ _ _ _ _ _ (hk k0 (Nat.le_refl _))
          ·cases H
         ·cases H
        ·cases H
       ·cases H
      ·cases H
    ·cases H
   ·cases H
 ·cases H
noncomputable def blkOrc : Orc := orElse 232 blkO constOrc
theorem blkOrc_ok : OrcOk cx Tryz.prog blkOrc := orElse_ok constOrc_ok fun args h e h' ho => blkO_ok ho
end Go.Proofs

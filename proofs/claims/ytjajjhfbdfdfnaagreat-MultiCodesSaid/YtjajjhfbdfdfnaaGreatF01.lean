/- What is proved: MultiCodes returns true of every input, and leaves its arguments as they were ('multiCodes_holds', Rows.MultiCodesSaid). Conditions: none. -/
import Derived.Test.YtjajjhfbdfdfnaaGreatC03
import Derived.Test.YtjajjhfbdfdfnaaGreatE06
import Derived.Test.YtjajjhfbdfdfnaaGreatRows
import Derived.SliceStrings
import Derived.Carry
import Derived.ChangeSame
import Derived.ChangeMaps5
import Derived.JoinedOf
import Derived.JoinedAt
import Derived.Handed
import Derived.ReadAgain
import Derived.RowKit2
set_option linter.all false
set_option linter.unusedVariables false
set_option linter.unusedSimpArgs false
set_option linter.unnecessarySimpa false
set_option linter.deprecated false
set_option maxRecDepth 100000
namespace Go.Ai
open Go Go.RowKit Go.ChangeShapes Go.WideShapes

/-- What blocks hold. -/
def frzOf (W : World) : Nat → Option (Array Value) := fun b => match W.heap[b]? with | some (.cells vs _ _) => some vs | _ => none
def rn0 (W : World) : Rn := { a := fun _ _ => none, f := frzOf W }
theorem wr0 (W : World) : WR (rn0 W) [] W := by
  refine ⟨fun i g b n h => (by cases h), fun b vs h => ?_, fun i b n hi => (by simp at hi), fun i b n hi => (by simp at hi), fun i j b n m hi => (by simp at hi), fun i g hi => (by simp at hi), fun i g _ => rfl, fun i g x hi => (by simp at hi)⟩
  have h : frzOf W b = some vs := h
  unfold frzOf at h
  split at h
  · rename_i vs' e z he
    cases h
    exact ⟨e, z, he⟩
  · cases h
theorem cellF_of {W : World} {b o : Nat} {v : Value} (h : W.cell? ⟨b, o, none⟩ = some v) : cellF (frzOf W) b o = some v := by
  unfold World.cell? at h
  unfold cellF frzOf
  split at h
  · rename_i vs e z he
    simp only at he
    rw [he]
    simpa using h
  · cases h

section
variable {H : Type} {enc : TypeId × Value → H} {P : Program}
/-- The row's end, where below the heap's old size nothing has turned. -/
theorem post_below {f : Func} {s : ChangeSpec} {apart fresh handsOn again : Bool} {W W' : World} {args : Array Value} {v : Value} {ds gs : List (DataW H)} {before pa pv : List MemPlace}
    (hW : DataW.Whole enc P f.params.toList s.vars apart W args.toList ds gs before)
    (hres : ∀ (b : Nat) (sp : Nat → Bool) (hd : Bool), DataW.TrodAll enc P W' b sp hd f.resultTypes.toList (v.resultList f.resultTypes.size) (s.fn H (ds ++ gs)).results [])
    (hargs : ∀ sp : Nat → Bool, (∀ p ∈ before, sp p.block = true) → DataW.TrodAll enc P W' 0 sp true f.params.toList args.toList (s.fn H (ds ++ gs)).args pa)
    (hvars : ∀ sp : Nat → Bool, (∀ p ∈ before, sp p.block = true) → DataW.TrodVars enc P W' sp s.vars (s.fn H (ds ++ gs)).vars pv)
    (hps : before = pa ++ pv) (hb : Below W.heap.size W W')
    (hok : ∀ (j : Nat) (t : TypeId) (r : Value), f.resultTypes[j]? = some t → (v.resultList f.resultTypes.size)[j]? = some r → Value.okWide P W' .any 0 t r) :
    s.post enc P f apart fresh handsOn again W args v W' := by
  have old : ∀ p ∈ before, p.block < W.heap.size := fun p hp => hW.lt p hp
  have sp0 : ∀ p ∈ before, (fun b => decide (b < W.heap.size)) p.block = true := fun p hp => decide_eq_true (old p hp)
  refine ⟨ds, gs, before, [], pa, pv, hW, hres _ _ _, hargs _ sp0, hvars _ sp0, hb.frame _, fun _ => ?_⟩
  have hW2 := hW
  obtain ⟨_, _, _, _, _, hz, hn⟩ := hW2
  refine ⟨hok, _, _, ([] ++ pa) ++ pv, ⟨[] ++ pa, pv, trodAll_append (hargs _ fun _ _ => rfl) (hres _ _ _), hvars _ fun _ _ => rfl, rfl, fun b off hp => ?_, fun ha => ?_⟩, fun p hp _ => ?_⟩
  · have hp' : MemPlace.cell b off ∈ before := by rw [hps]; simpa using hp
    exact (hb.frozen (p := ⟨b, off, none⟩) (old _ hp')).trans (hz b off hp')
  · have := hn ha
    rw [hps] at this
    simpa using this
  · rw [hps]; simpa using hp
end
end Go.Ai
namespace Go.Proofs
open Go Go.Ai Go.RowKit

theorem sane6_ok : CallAt cx Tryz.prog (.fn 6 []) [] none (.ret (.p (.bool true))) [] none := memo_ok cx_ok saneOrc_ok sane10_run rfl
noncomputable def o6 : Orc := memoC 6 (.p (.bool true)) (fun _ _ _ => none)
theorem o6_ok : OrcOk cx Tryz.prog o6 := memoC_ok (noneOrc_ok _ _) sane6_ok
theorem o6_free : Free o6 := fun f args h hf => by
  unfold o6 memoC
  rw [show Nat.beq f 6 = false from Bool.eq_false_iff.2 fun q => hf (Nat.eq_of_beq_eq_true q)]; rfl
theorem o6_ct : Ct cx o6 (.fn 6 []) [] (fun e _ => e = .ret (.p (.bool true))) :=
  ⟨.ret (.p (.bool true)), [], ⟨1, fun k hk => by obtain ⟨k, rfl⟩ : ∃ i, k = i + 1 := ⟨k - 1, by omega⟩; rfl⟩, rfl⟩

theorem calls3 {W : World} {p : PV} {v : Value} {s : ByteArray} {l : List (List UInt8)} (hv : PR (frzOf W) p v) (hT : ∀ h, Txts h (.p p) l)   :
    Calls Tryz.prog 3 #[v, .string s] W fun e w' => e = .returned (.bool true) ∧ Below W.heap.size W w' := by
  obtain ⟨e, h', ⟨k0, hk⟩, rfl⟩ := law3 o6_free o6_ct hT s.data.toList
  have hc := callN_ok cx_ok o6_ok k0 _ _ _ _ _ _ (hk k0 (Nat.le_refl _))
  have := calls_of hc (wr0 W) (fun g q hq => by cases hq) (vs := #[v, .string s]) (by
    refine ⟨rfl, fun i x u hx hu => ?_⟩
    match i, hx, hu with
    | 0, hx, hu => cases hx; cases hu; exact .p hv
    | 1, hx, hu => cases hx; cases hu; exact .p (.str _ _ rfl))
  refine this.mono fun e w' he => ?_
  cases e with
  | returned x =>
    obtain ⟨E', A, v', hv', hx⟩ := he
    cases hv'
    have hx := hx.p_inv
    cases hx
    exact ⟨rfl, A.keep.os, A.keep.tape, A.keep.output, A.keep.size, fun b hb => A.keep.block b hb fun i n hi => (by simp at hi)⟩
  | panicked c => obtain ⟨E', A, v', x, hv', _⟩ := he; cases hv'
  | outgrown => exact he.elim
end Go.Proofs
namespace Go.Proofs.YtjajjhfbdfdfnaaGreat
open Go.Ai Go.RowKit Go.ChangeShapes Go.WideShapes Go.ChangeAt Go.ChangeMaps

theorem own : ownKnob Tryz.prog.godebug = none := by kernel_rfl
theorem laidOut : laidOutB Tryz.prog = true := by kernel_rfl
theorem cells9 : Tryz.prog.cellsOf 9 = 1 := by kernel_rfl
theorem und22 : Tryz.prog.underlying 22 = some (.slice 9) := by kernel_rfl
theorem und9 : Tryz.prog.underlying 9 = some .string := by kernel_rfl
theorem und4 : Tryz.prog.underlying 4 = some .bool := by kernel_rfl
theorem par3 : Tryz.f3.params = #[22, 9] := by kernel_rfl
theorem res3 : Tryz.f3.resultTypes = #[4] := by kernel_rfl

theorem txts_vec (h : List Ob) (ss : List ByteArray) : Txts h (.p (.vec 1 ((ss.map fun s => s.data.toList).map .str))) (ss.map fun s => s.data.toList) := .vec _

theorem lifted (os : Os) (started : os.Started) (H : Type) (enc : TypeId × Value → H) :
    ReturnsInHanded {} Tryz.checked os 3 .any (Rows.multiCodesSpec.pre6 enc Tryz.prog Tryz.f3 Rows.multiCodesRow.domain false) (Rows.multiCodesSpec.post enc Tryz.prog Tryz.f3 false true false false) := by
  refine returnsInHanded_of_change (C := Tryz.checked) own started (by kernel_rfl) Tryz.func3
    (ChangeSpec.witness6 (enc := enc) (C := Tryz.checked) false ⟨#[], #[.slice none 0 0, .string ByteArray.empty], []⟩ 8 (by kernel_rfl) (by kernel_rfl) (by kernel_rfl) (by kernel_rfl)) ?_
  intro W base args ds gs before hval0 hW _ _
  have hval : ∀ (j : Nat) t v, Tryz.f3.params[j]? = some t → args[j]? = some v → Value.okWide Tryz.prog W .any base t v := hval0
  have hW' := hW
  obtain ⟨p, q, hA0, hV, rfl, _, _⟩ := hW
  have hA : DataW.TrodAll enc Tryz.prog W 0 (fun _ => true) true Tryz.f3.params.toList args.toList ds p := hA0
  rw [par3] at hA hval
  obtain ⟨v0, v1, d0, d1, p0, p1, rfl, rfl, rfl, h0, h1⟩ := trodAll_two hA
  obtain ⟨rfl, rfl⟩ := trodVars_none hV
  have k0 := h0
  have k1 := h1
  obtain ⟨s, rfl, rfl, rfl, hs⟩ := open_string und9 (hval 1 9 v1 rfl rfl) h1
  obtain ⟨a0, len, cap, rfl⟩ := okWide_slice und22 (hval 0 22 v0 rfl rfl)
  obtain ⟨fuel, hf⟩ := h0
  clear hA0 hval0
  simp only [List.append_nil] at hW'
  have fin : ∀ W', Below W.heap.size W W' → Rows.multiCodesSpec.post enc Tryz.prog Tryz.f3 false true false false W #[.slice a0 len cap, .string s] (.bool true) W' := fun W' hb => by
    have hlt : ∀ x ∈ p0 ++ [], x.block < W.heap.size := fun x hx => hW'.lt x (by simpa using hx)
    refine post_below (pa := p0) (pv := []) hW' (fun b sp hd => ?_) (fun sp hsp => ?_) (fun _ _ => rfl) (by simp) hb ?_
    · rw [res3]
      exact trodAll_mk1 ⟨1, by simp [DataW.trod, Value.cells, und4]⟩
    · rw [par3]
      have t0 := WideElems.Trod_stays (sp' := sp) laidOut (by kernel_rfl) (of_decide_eq_true (by kernel_rfl)) k0 (fun x hx => hb.same (hlt x (by simpa using hx))) (fun x hx => hsp x (by simpa using hx))
      have t1 := WideElems.Trod_stays (W' := W') (sp' := sp) laidOut (by kernel_rfl) (of_decide_eq_true (by kernel_rfl)) k1 (fun x hx => (by cases hx)) (fun x hx => (by cases hx))
      have h2 := trodAll_mk2 t0 t1
      rw [List.append_nil] at h2
      exact h2
    · intro j t r hj hr
      rw [res3] at hj hr
      match j, hj, hr with
      | 0, hj, hr =>
        simp [Value.resultList] at hj hr
        subst hj; subst hr
        simp [Value.okWide, und4, Cell.okWide, Cell.ok]
  rcases open_strings und22 und9 cells9 hf with ⟨hcs, hx⟩ | ⟨a, len', cap', ss, hcs, _, hl, hm, hz, hx, hcell, hsz⟩
  · simp [Value.cells] at hcs
    obtain ⟨rfl, rfl, rfl⟩ := hcs
    refine (calls3 (s := s) (p := .nils) (l := []) .nils (fun h => .nil)).mono fun e W' ⟨he, hb⟩ => ?_
    exact ⟨_, he, fin W' hb⟩
  · simp [Value.cells] at hcs
    obtain ⟨rfl, rfl, rfl⟩ := hcs
    simp only [if_true] at hz
    obtain ⟨b, off, spot⟩ := a
    have hspot : spot = none := by
      have h2 := hval 0 22 _ rfl rfl
      simp only [Value.okWide, und22, Cell.okWide, Cell.ok] at h2
      exact h2.2.2.2.1
    subst hspot
    have hlen : (((ss.take len).map fun s : ByteArray => s.data.toList).map PV.str).length = len := by simp; omega
    have hpr : PR (frzOf W) (.vec 1 (((ss.take len).map fun s : ByteArray => s.data.toList).map .str)) (.slice (some ⟨b, off, none⟩) len cap) := by
      have := PR.of_elems (f := frzOf W) (sz := 1) (xs := ((ss.take len).map fun s : ByteArray => s.data.toList).map PV.str) (b := b) (off := off) (cap := cap) (by rw [hlen]; exact hl) (fun i x hx => by
        rw [List.map_map, List.getElem?_map, List.getElem?_take] at hx
        split at hx
        · rename_i hi
          have his : i < ss.length := by omega
          rw [List.getElem?_eq_getElem his] at hx
          cases hx
          refine ⟨rfl, fun j y hy => ?_⟩
          match j, hy with
          | 0, hy =>
            cases hy
            refine ⟨.string ss[i], cellF_of ?_, rfl, .str _ _ rfl⟩
            have := hcell i his
            rw [add_plain] at this
            simpa [List.getD, his] using this
        · cases hx)
      rwa [hlen] at this
    refine (calls3 (s := s) hpr (fun h => .vec _)).mono fun e W' ⟨he, hb⟩ => ?_
    exact ⟨_, he, fin W' hb⟩

theorem multiCodes_holds : Rows.MultiCodesSaid :=
  OpenClaim.holds_of_wide 3 Tryz.f3 rfl rfl rfl rfl rfl rfl rfl ⟨rfl, rfl, rfl, rfl, rfl⟩ rfl rfl rfl rfl rfl (by kernel_rfl) Tryz.func3 (by kernel_rfl)
    (of_decide_eq_true (by kernel_rfl)) (by unfold Func.isWrapper; first | (rw [if_pos (by decide +kernel)]; kernel_rfl) | (rw [if_neg (by decide +kernel)]; exact ⟨rfl, rfl⟩))
    (fun os started H enc _ => lifted os started H enc)
#print axioms multiCodes_holds
end Go.Proofs.YtjajjhfbdfdfnaaGreat

/-
  No cell of these rows narrows 'for every input' (looked for: loops, veiled, ifaces, maps, wideKeys, modest, calm, conditions, laid).
  DERIVED. THE GIVEN ROWS OF THIS SEAT. 2 by the template 'for every input the law returns true; each argument reads behind the call as it read before'; 0 by the template 'total and deterministic' (their statements: YtjajjhfbdfdfnaaGreatTotals.lean).
  GIVEN WITH THE SEED: the statements are not yours to turn. If you find one false, say at which input.
  Laid BY PROGRAM, IN A SANDBOX (cutbox-rows.mjs): the forced cells as the released guide's own fill.sh prints them over the translation 4fd1a274a6fd2f2f… (all of the seat's roots in one cut). By AI agents, Wed Nov 11 2026. No macro, syntax, notation, axiom, sorry.
-/
import Derived.Test.YtjajjhfbdfdfnaaGreatChecked
import GoSem.Claim
import GoSem.ClaimJoined
import GoSem.ClaimMapViews
import Derived.JoinedTies
import Derived.KernelRfl
namespace Go.Proofs.YtjajjhfbdfdfnaaGreat
/- THE CELL 'sum', in the pinned program and in every row, IS THE sha256 OF THE DUMP (.gsa) THAT YtjajjhfbdfdfnaaGreatProg.lean LOADS. Nothing in Lean hashes anything: it is a label: what it is worth is what the hold of that sum in a sandbox is worth. -/
noncomputable def Tryz.pinned : Pinned := { name := "ytjajjhfbdfdfnaagreat", sum := "4fd1a274a6fd2f2fb23aad22b9dd661165bdf89706650e145882cea1b2929090", checked := Tryz.checked }
namespace Rows
def none {H : Type} : Left H := { results := [], args := [] }

/-- 'understorylaw10.MultiCodes': WHATEVER THE INPUT: true; the input reads as it did. -/
def multiCodesSpec : ChangeSpec := { name := "multiCodes", fn := fun _ => fun
  | [d1, d2] => { results := [.lit (.bool true)], args := [d1, d2] }
  | _ => none }
def multiCodesRow : OpenClaim := { program := "ytjajjhfbdfdfnaagreat", sum := "4fd1a274a6fd2f2fb23aad22b9dd661165bdf89706650e145882cea1b2929090", func := "understory/understorylaw10.MultiCodes", spec := "multiCodes", inPlace := ["slices.overlaps[string]", "slices.overlaps[int]", "internal/abi.NoEscape", "math.sqrt", "math.Float64bits", "math.Float64frombits", "slices.overlaps[understory/api.Entry]"], unfollowed := true, recurses := true, apart := false }
def MultiCodesSaid : Prop := multiCodesRow.holds Tryz.pinned (OpenSpec.ofChange multiCodesSpec)

/-- ITS FALSE NEIGHBOUR: 'it returns false'. Refute it at one input. -/
def multiCodesWrong : ChangeSpec := { name := "multiCodes", fn := fun _ => fun
  | [d1, d2] => { results := [.lit (.bool false)], args := [d1, d2] }
  | _ => none }
def MultiCodesWrongFalsely : Prop := multiCodesRow.holds Tryz.pinned (OpenSpec.ofChange multiCodesWrong)

/-- 'understorylaw07.TreeSpaces': WHATEVER THE INPUT: true; the input reads as it did. -/
def treeSpacesSpec : ChangeSpec := { name := "treeSpaces", fn := fun _ => fun
  | [d1, d2, d3] => { results := [.lit (.bool true)], args := [d1, d2, d3] }
  | _ => none }
def treeSpacesRow : OpenClaim := { program := "ytjajjhfbdfdfnaagreat", sum := "4fd1a274a6fd2f2fb23aad22b9dd661165bdf89706650e145882cea1b2929090", func := "understory/understorylaw07.TreeSpaces", spec := "treeSpaces", inPlace := ["slices.overlaps[int]", "math.sqrt", "math.Float64bits", "math.Float64frombits", "internal/abi.NoEscape", "slices.overlaps[understory/api.Entry]"], unfollowed := true, recurses := true, apart := false }
def TreeSpacesSaid : Prop := treeSpacesRow.holds Tryz.pinned (OpenSpec.ofChange treeSpacesSpec)

/-- ITS FALSE NEIGHBOUR: 'it returns false'. Refute it at one input. -/
def treeSpacesWrong : ChangeSpec := { name := "treeSpaces", fn := fun _ => fun
  | [d1, d2, d3] => { results := [.lit (.bool false)], args := [d1, d2, d3] }
  | _ => none }
def TreeSpacesWrongFalsely : Prop := treeSpacesRow.holds Tryz.pinned (OpenSpec.ofChange treeSpacesWrong)

/- THE SECOND FORM. 'bulk': how many values and letters a reading holds, each counted each time it is reached (what is shared counts as often as it is met; a slice's spare places count too). A statement '..UptoSaid' is the law's where the arguments, and the package variables that the reading takes, are together of bulk at most 1048576: NARROWER than '..Said'. Prove '..Said' where nothing that the law and all that it calls make is longer than what came in: it says more and counts as full. Else prove '..UptoSaid'. A law counts once. -/
mutual
def uptoBulk {H : Type} : DataW H → Nat
  | .lit (.string bytes) => bytes.length + 1
  | .lit _ => 1
  | .nil => 1
  | .ptr d => uptoBulk d + 1
  | .slice elems spare => uptoBulkAll elems + uptoBulkAll spare + 1
  | .agg parts => uptoBulkAll parts + 1
  | .iface _ d => uptoBulk d + 1
  | .map entries => uptoBulkEntries entries + 1
  | .held _ => 1
def uptoBulkAll {H : Type} : List (DataW H) → Nat
  | [] => 0
  | d :: r => uptoBulk d + uptoBulkAll r
def uptoBulkEntries {H : Type} : List (Lit × DataW H) → Nat
  | [] => 0
  | x :: r => uptoBulkEntry x + uptoBulkEntries r
def uptoBulkEntry {H : Type} : Lit × DataW H → Nat
  | (.string bytes, d) => bytes.length + uptoBulk d + 1
  | (_, d) => uptoBulk d + 1
 end
def uptoSmall : (H : Type) → List (DataW H) → Bool := fun _ ds => decide (uptoBulkAll ds ≤ 1048576)
def OpenSpec.upto (s : _root_.Go.ChangeSpec) : _root_.Go.OpenSpec := { _root_.Go.OpenSpec.ofChange s with cond := some uptoSmall }

/-- 'understorylaw10.MultiCodes', WHERE WHAT IT READS IS OF BULK AT MOST 1048576: true; the input reads as it did. -/
def multiCodesUptoRow : OpenClaim := { program := "ytjajjhfbdfdfnaagreat", sum := "4fd1a274a6fd2f2fb23aad22b9dd661165bdf89706650e145882cea1b2929090", func := "understory/understorylaw10.MultiCodes", spec := "multiCodes", inPlace := ["slices.overlaps[string]", "slices.overlaps[int]", "internal/abi.NoEscape", "math.sqrt", "math.Float64bits", "math.Float64frombits", "slices.overlaps[understory/api.Entry]"], unfollowed := true, recurses := true, apart := false, narrowed := true }
def MultiCodesUptoSaid : Prop := multiCodesUptoRow.holds Tryz.pinned (OpenSpec.upto multiCodesSpec)

/-- 'understorylaw07.TreeSpaces', WHERE WHAT IT READS IS OF BULK AT MOST 1048576: true; the input reads as it did. -/
def treeSpacesUptoRow : OpenClaim := { program := "ytjajjhfbdfdfnaagreat", sum := "4fd1a274a6fd2f2fb23aad22b9dd661165bdf89706650e145882cea1b2929090", func := "understory/understorylaw07.TreeSpaces", spec := "treeSpaces", inPlace := ["slices.overlaps[int]", "math.sqrt", "math.Float64bits", "math.Float64frombits", "internal/abi.NoEscape", "slices.overlaps[understory/api.Entry]"], unfollowed := true, recurses := true, apart := false, narrowed := true }
def TreeSpacesUptoSaid : Prop := treeSpacesUptoRow.holds Tryz.pinned (OpenSpec.upto treeSpacesSpec)

end Rows
end Go.Proofs.YtjajjhfbdfdfnaaGreat

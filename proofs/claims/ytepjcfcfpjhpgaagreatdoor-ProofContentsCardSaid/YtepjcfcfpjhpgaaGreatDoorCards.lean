/-
  DERIVED. GIVEN WITH THE SEED: THE CARDS: each row of YtepjcfcfpjhpgaaGreatDoorRows.lean that lists a variable, with what it lists TIED to the program's text (the seventh form; the later family's looks); each row that meets fmt, with fmt's text TOLD by the authors' own Lean function (tested against real Go, not proved from fmt's source: count such statements apart). THE CARD IS WHAT COUNTS. Prove the row's statement (the work); the ties are given (YtepjcfcfpjhpgaaGreatDoorTie.lean); close each card by the builder's one call (the guide's Derived/Test/ToyasCard.lean, 'card_holds'). Laid BY PROGRAM, IN A SANDBOX (cutbox-door.mjs). By AI agents, Wed Nov 11 2026. No macro, syntax, notation, axiom, sorry.
-/
import Derived.Test.YtepjcfcfpjhpgaaGreatDoorRows
import GoSem.ClaimSeven
namespace Go.Proofs.YtepjcfcfpjhpgaaGreatDoor
namespace Rows

/-- THE TIED CARD OF 'understorylaw08.CursorChecks'. -/
def cursorChecksCard : Claim7 := { stood := { row := cursorChecksRow, standIns := [], harness := (true, "ac882a71bebfea4921878b0d354a7c74cf3a05f0a379a9467374552456511238"), looks := true }, kinds := [], alts := [], laidByText := true, laidKinds := [.data], laidTests := true, laidLooks := .later }
def CursorChecksCardSaid : Prop := Claim7.holds Tryz.pinned (.plain (OpenSpec.ofChange cursorChecksSpec)) cursorChecksCard

/-- THE TIED CARD OF 'understorylaw18.ProofContents'. -/
def proofContentsCard : Claim7 := { stood := { row := proofContentsRow, standIns := [], harness := (true, "ac882a71bebfea4921878b0d354a7c74cf3a05f0a379a9467374552456511238"), looks := true }, kinds := [], alts := [], laidByText := true, laidKinds := [.data], laidTests := true, laidLooks := .later }
def ProofContentsCardSaid : Prop := Claim7.holds Tryz.pinned (.plain (OpenSpec.ofChange proofContentsSpec)) proofContentsCard

/-- THE SECOND FORM's CARD OF 'understorylaw08.CursorChecks'. -/
def cursorChecksUptoCard : Claim7 := { stood := { row := cursorChecksUptoRow, standIns := [], harness := (true, "ac882a71bebfea4921878b0d354a7c74cf3a05f0a379a9467374552456511238"), looks := true }, kinds := [], alts := [], laidByText := true, laidKinds := [.data], laidTests := true, laidLooks := .later }
def CursorChecksUptoCardSaid : Prop := Claim7.holds Tryz.pinned (.plain (OpenSpec.upto cursorChecksSpec)) cursorChecksUptoCard

/-- THE SECOND FORM's CARD OF 'understorylaw18.ProofContents'. -/
def proofContentsUptoCard : Claim7 := { stood := { row := proofContentsUptoRow, standIns := [], harness := (true, "ac882a71bebfea4921878b0d354a7c74cf3a05f0a379a9467374552456511238"), looks := true }, kinds := [], alts := [], laidByText := true, laidKinds := [.data], laidTests := true, laidLooks := .later }
def ProofContentsUptoCardSaid : Prop := Claim7.holds Tryz.pinned (.plain (OpenSpec.upto proofContentsSpec)) proofContentsUptoCard
end Rows
end Go.Proofs.YtepjcfcfpjhpgaaGreatDoor
